/- Texts of this claim, put together: EscZb, EscZi, EscZe, EscZf, EscZg, EscZh, EscZj, EscZk, EscJa, EscJb, EscJc, EscJd, FwMap, EscJe, EscJf, EscJg, EscJh, EscJi, EscJj, EscJk, EscJl, EscJm, EscJn, EscJo, EscZc, EscZd, EscJp, EscLa, EscLb, EscLc, EscLd, EscLe, EscLf, EscLg, EscEq, EscLh, EscLm, EscLi, EscLv -/
import Derived.Test.YteomkfcfhlljkaaDoorAllLawkenbcm
import Derived.Test.YteomkfcfhlljkaaDoorAllLawfofmgi
import Derived.Test.YteomkfcfhlljkaaDoorAllFwmlkaep
import Derived.MapKept
import Derived.SliceStrings
import Derived.Laws.StructEq
set_option linter.unusedVariables false
set_option maxRecDepth 100000
namespace Go.Sh
open Go.Fw Go.Gf Go.Sha Go.RowKit Go.Proofs.Tryd
def mayE(size:Nat)(need count:Int):Int:=if size<1∨64<size then 111 else if need<1∨16<need∨count<need∨255<count then 110 else 0
def rndN(need:Int)(size:Nat):Int:=if need<1∨16<need∨size<1∨64<size then 0 else(need - 1)*(size+4)
def dealE(size:Nat)(need count:Int)(n:Nat):Int:=if mayE size need count≠0 then mayE size need count else if (n:Int)≠rndN need size then 5 else 0
def dealT(C S:List Int)(set:Nat)(sec:List F)(need count:Int)(R:List F):List ByteArray:=
 if dealE sec.length need count R.length=0 then dealN set need.toNat sec.length (linesC (rowP C S set sec) R need.toNat) count.toNat else []
theorem mayL(n:Nat)(need count:Int):K_ok (n:Int) need count=some (mayE n need count,()):=by
 unfold K_ok K_o8
 by_cases h1:n<1
 ·have e:mayE n need count=111:=by unfold mayE;rw[if_pos (by omega)]
  rw[e,if_pos (decide_eq_true (show (n:Int)<1 by omega))];rfl
 ·rw[if_neg (by simp only[decide_eq_true_eq];omega),J_bs]
  dsimp only
  by_cases h2:64<n
  ·have e:mayE n need count=111:=by unfold mayE;rw[if_pos (by omega)]
   rw[e,if_pos (decide_eq_true (show (n:Int) > 64 by omega))]
  ·rw[if_neg (by simp only[decide_eq_true_eq];omega)]
   simp only[decide_eq_true_eq]
   have e:need<1∨16<need∨count<need∨255<count→mayE n need count=110:=fun h=>by unfold mayE;rw[if_neg (by omega),if_pos h]
   have e0:¬(need<1∨16<need∨count<need∨255<count)→mayE n need count=0:=fun h=>by unfold mayE;rw[if_neg (by omega),if_neg h]
   by_cases a1:need<1
   ·rw[if_pos a1,e (.inl a1)]
   ·rw[if_neg a1]
    by_cases a2:need > 16
    ·rw[if_pos a2,e (.inr (.inl a2))]
    ·rw[if_neg a2]
     by_cases a3:count<need
     ·rw[if_pos a3,e (.inr (.inr (.inl a3)))]
     ·rw[if_neg a3]
      by_cases a4:count > 255
      ·rw[if_pos a4,e (.inr (.inr (.inr a4)))]
      ·rw[if_neg a4,e0 (by omega)]
theorem K_174(s:Sl)(need count:Int):K_cb s need count=K_ok ((s.len:Nat):Int) need count:=rfl
theorem K_170(need size:Int):K_8h need size=K_6h need size:=rfl
theorem rndL(need:Int)(n:Nat):K_6h need (n:Int)=some (rndN need n,()):=by
 unfold K_6h K_8s
 have e:need<1∨16<need∨n<1∨64<n→rndN need n=0:=fun h=>by unfold rndN;rw[if_pos h]
 have e0:¬(need<1∨16<need∨n<1∨64<n)→rndN need n=(need - 1)*(n+4):=fun h=>by unfold rndN;rw[if_neg h]
 by_cases h1:need<1
 ·rw[e (.inl h1),if_pos (decide_eq_true h1)];rfl
 ·rw[if_neg (by simp only[decide_eq_true_eq];omega)]
  by_cases h2:need > 16
  ·rw[e (.inr (.inl h2)),if_pos (decide_eq_true h2)];rfl
  ·rw[if_neg (by simp only[decide_eq_true_eq];omega)]
   by_cases h3:n<1
   ·rw[e (.inr (.inr (.inl h3))),if_pos (decide_eq_true (show (n:Int)<1 by omega))];rfl
   ·rw[if_neg (by simp only[decide_eq_true_eq];omega),J_bs]
    dsimp only
    by_cases h4:64<n
    ·rw[e (.inr (.inr (.inr h4))),if_pos (decide_eq_true (show (n:Int) > 64 by omega))]
    ·rw[if_neg (by simp only[decide_eq_true_eq];omega),e0 (by omega)]
     obtain⟨a,rfl⟩:∃ a:Nat,need=((a+1:Nat):Int):=⟨(need - 1).toNat,by omega⟩
     have e1:(((a+1:Nat):Int) - 1)=(a:Int):=by omega
     have e2:((n:Int)+4)=((n+4:Nat):Int):=rfl
     have f1:IntKind.i64.wrap (a:Int)=(a:Int):=w64 (by omega) (by omega)
     have f2:IntKind.i64.wrap ((n+4:Nat):Int)=((n+4:Nat):Int):=w64 (by omega) (by omega)
     have:a*(n+4)≤15*68:=Nat.mul_le_mul (by omega) (by omega)
     rw[e1,e2,f1,f2,←Int.natCast_mul,w64 (by omega) (by omega)]
theorem K_127{n m:Nat}{need count:Int}(h:dealE n need count m=0):mayE n need count=0∧(1≤n∧n≤64)∧(1≤need∧need≤16)∧need≤count∧count≤255∧m=(need.toNat - 1)*(n+4)∧(m:Int)=rndN need n:=by
 unfold dealE at h
 by_cases h1:mayE n need count=0
 ·rw[if_neg (by omega)]at h
  by_cases h2:(m:Int)=rndN need n
  ·have h3:=h1
   unfold mayE at h1
   by_cases a:n<1∨64<n
   ·rw[if_pos a]at h1;omega
   ·rw[if_neg a]at h1
    by_cases b:need<1∨16<need∨count<need∨255<count
    ·rw[if_pos b]at h1;omega
    ·refine⟨h3,by omega,by omega,by omega,by omega,?_,h2⟩
     unfold rndN at h2
     rw[if_neg (by omega)]at h2
     obtain⟨x,rfl⟩:∃ x:Nat,need=((x+1:Nat):Int):=⟨(need - 1).toNat,by omega⟩
     have e1:(((x+1:Nat):Int) - 1)=(x:Int):=by omega
     have e2:((n:Int)+4)=((n+4:Nat):Int):=rfl
     rw[e1,e2,←Int.natCast_mul]at h2
     rw[J_tn,Nat.add_sub_cancel]
     exact Int.ofNat_inj.1 h2
  ·rw[if_pos h2]at h;omega
 ·rw[if_pos h1]at h;exact absurd h h1
theorem K_z1{K:Nat}(hK:18446744073709551616≤K){w:World}{C S:List Int}(T:Tabs w C S){set:Nat}(hset:set<65536){need count:Int}{sv rv:Sl}{sec R:List F}(hs:BSrc w sv sec)(hr:BSrc w rv R):
  ∃ s' w',K_5x K (set:Int) sv need count rv w=some ((s',dealE sec.length need count R.length,()),w')∧OwnS 9 w' s' (tx (dealT C S set sec need count R))∧Upd none_ w w'∧Fresh w.heap.size s':=by
 have hsl:sv.len=sec.length:=by rw[hs.len,K_0]
 have hrl:rv.len=R.length:=by rw[hr.len,K_0]
 unfold K_5x dealT
 rw[K_174,hsl,mayL,J_bs]
 by_cases h1:mayE sec.length need count=0
 ·rw[if_neg (by rw[h1];simp),K_170,rndL,J_bs,hrl]
  dsimp only
  by_cases h2:(R.length:Int)=rndN need sec.length
  ·rw[if_neg (by rw[h2];simp)]
   have hE:dealE sec.length need count R.length=0:=by unfold dealE;rw[if_neg (by omega),if_neg (by omega)]
   obtain⟨_,hn,hd,hc1,hc2,hm,_⟩:=K_127 hE
   obtain⟨nd,rfl⟩:∃ nd:Nat,need=(nd:Int):=⟨need.toNat,by omega⟩
   obtain⟨ct,rfl⟩:∃ ct:Nat,count=(ct:Int):=⟨count.toNat,by omega⟩
   rw[J_tn]at hm
   rw[hE,if_pos rfl,J_tn,J_tn]
   obtain⟨s1,w1,a1,a2,a3,a4⟩:=K_11l hK T (set:=set) hs (by omega)
   have hrow:=K_tf C S set sec
   have hs1:s1.len=(rowP C S set sec).length:=by rw[a2.len,K_0]
   have z1:=a3.size
   obtain⟨s2,w2,b1,b2,b3⟩:=K_14c hK (set:=(set:Int)) (count:=(ct:Int)) (sec:=sv) (rnd:=rv) (rs:=s1) (row:=rowP C S set sec) (R:=R) (need:=nd) (B:=w1.heap.size) (by omega) (by omega) (by rw[hrow];exact hm) (by omega)
    (fun q hq hne=>by have:=K_bu hr q hq hne;omega) (fun q hq hne=>K_ci a2 q hq) (rowP C S set sec).length 0 K w1 ⟨none,0,0⟩ [] (by omega) (by omega) (Nat.le_refl _) (hr.upd0 a3) (a2.src (K_14 _)) (OwnS.nil _ _) rfl (fun k hk=>by cases hk) (fun j hj=>by omega)
   have b1:K_2x K K (set:Int) sv (nd:Int) (ct:Int) rv s1 ⟨none,0,0⟩ s1 (((rowP C S set sec).length:Nat):Int) 0 w1=_:=b1
   have b3:Upd none_ w1 w2:=b3.mono fun k _ e=>by cases e
   have u2:=a3.and0 b3
   have z2:=b3.size
   obtain⟨s3,w3,c1,c2,c3,c4⟩:=K_157 hK (set:=set) (need:=nd) (count:=ct) (size:=sec.length) hset (by omega) (sec:=sv) hsl (rows:=linesC (rowP C S set sec) R nd) (by rw[K_58];omega) (fun c hc=>by rw[K_m8 _ _ _ c hc];omega) (P:=fun k=>w1.heap.size≤k∧k<w2.heap.size) (B:=w2.heap.size) (fun k hk=>hk.2) ct 0 K w2 ⟨none,0,0⟩ (by omega) (by omega) (Nat.le_refl _) b2 (OwnS.nil _ _) (fun k hk=>by cases hk)
   have c1:K_2y K K (set:Int) sv (nd:Int) (ct:Int) s2 ⟨none,0,0⟩ 1 w2=_:=c1
   have c3:Upd none_ w2 w3:=c3.mono fun k _ e=>by cases e
   refine⟨s3,w3,?_,c2,u2.and0 c3,fun k hk=>(c4 k hk).elim (fun e=>by cases e) fun e=>by omega⟩
   rw[a1,bnd_ok]
   dsimp only
   rw[hs1,b1,bnd_ok]
   dsimp only
   rw[c1,bnd_ok]
  ·rw[if_pos (by simpa using h2)]
   have hE:dealE sec.length need count R.length=5:=by unfold dealE;rw[if_neg (by omega),if_pos h2]
   rw[hE,if_neg (by omega)]
   exact⟨_,w,rfl,OwnS.nil _ _,Upd.refl _ _,fun k hk=>by cases hk⟩
 ·have hE:dealE sec.length need count R.length=mayE sec.length need count:=by unfold dealE;rw[if_pos h1]
  rw[if_pos (by simpa using h1),hE,if_neg h1]
  exact⟨_,w,rfl,OwnS.nil _ _,Upd.refl _ _,fun k hk=>by cases hk⟩
end Go.Sh

namespace Go.Sh
open Go.Fw Go.Gf Go.Sha Go.RowKit Go.Proofs.Tryd
def mendAll:List (List Nat)→Int×List (List F)
 | []=>(0,[])
 | T :: r=>match (mendR T).2 with
  | none=>((mendR T).1,[])
  | some x=>((mendAll r).1,x.1 :: (mendAll r).2)
def alikeB(a c:List F):Bool:=decide (setN c=setN a∧bAt c 2=bAt a 2∧bAt c 4=bAt a 4)
def ownL:List (List F)→List (List F)→Option (List (List F))
 | acc,[]=>some acc
 | acc,c :: r=>match acc.find? (fun a=>bAt a 3 == bAt c 3) with
  | some a=>if valsP a=valsP c then ownL acc r else none
  | none=>ownL (acc ++ [c]) r
def ptsL(l:List (List F))(v:Nat):List (F×F):=l.map fun c=>(b8 (bAt c 3),(valsP c).getD v 0)
def betwL(l:List (List F))(need n:Nat)(x:F):List F:=(List.range n).map fun v=>lag (ptsL (l.take need) v) x
def fitL(C S:List Int)(l:List (List F))(set need size:Nat):Bool:=
 decide ((∀ c∈l.drop need,betwL l need (size+4) (b8 (bAt c 3))=valsP c)∧betwL l need (size+4) 0=rowP C S set ((betwL l need (size+4) 0).take size))
def joinR(C S:List Int)(Ts:List (List Nat)):Int×List (List F):=
 if (mendAll Ts).1≠0 then((mendAll Ts).1,[]) else
 match (mendAll Ts).2 with
 | []=>(114,[])
 | a :: r=>if (a :: r).all (alikeB a)=false then(115,[]) else
  match ownL [] (a :: r) with
  | none=>(116,[])
  | some l=>if l.length<bAt a 2 then(114,[]) else if fitL C S l (setN a) (bAt a 2) (bAt a 4)=false then(117,[]) else(0,l)
end Go.Sh

namespace Go.Sh
open Go.Fw Go.Gf Go.RowKit Go.Proofs.Tryd
end Go.Sh

namespace Go.Sh
open Go.Fw Go.Gf Go.RowKit Go.Proofs.Tryd
structure ManyS(P:Program) (t e:TypeId) (n:Nat) (z:Array Value) (bytes:Nat):Prop where
 ht:P.underlying t=some (.slice e)
 info:∃ i,P.info? e=some i∧i.size=n∧i.zero=some (.agg z)∧i.bytes=bytes
 pos:0<bytes
 zc:z.size=n
 np:0<n
def OwnN(e:TypeId)(n:Nat)(w:World)(s:Sl)(xs:List Value):Prop:=w.ownsRow 0 e n (.slice s.a s.len s.cap) s.len xs
theorem OwnN.nil(e:TypeId)(n:Nat)(w:World):OwnN e n w ⟨none,0,0⟩ []:=⟨by simp,.inl ⟨rfl,rfl⟩⟩
theorem OwnN.lt{e:TypeId}{n:Nat}{w:World}{s:Sl}{xs:List Value}(h:OwnN e n w s xs){k:Nat}(hk:s.blk=some k):k<w.heap.size:=by
 rcases h.2 with ⟨h1,_⟩ | ⟨g,cap,cur,h1,_,h2,_⟩
 ·injection h1 with h1;simp[Sl.blk,h1]at hk
 ·have:s.a=some ⟨g,0,none⟩:=by injection h1
  simp[Sl.blk,this]at hk;subst hk;exact(Array.getElem?_eq_some_iff.1 h2).1
theorem OwnN.upd{e:TypeId}{n:Nat}{w w':World}{s:Sl}{xs:List Value}{S:Nat→Prop}(h:OwnN e n w s xs)(u:Upd S w w')(hn:∀ k,s.blk=some k→¬S k):OwnN e n w' s xs:=by
 refine⟨h.1,h.2.imp id fun⟨g,cap,cur,h1,h0,h2,h3⟩=>⟨g,cap,cur,h1,h0,?_,h3⟩⟩
 have:s.a=some ⟨g,0,none⟩:=by injection h1
 rw[u.block g (Array.getElem?_eq_some_iff.1 h2).1 (hn g (by simp[Sl.blk,this]))];exact h2
theorem OwnN.upd0{e:TypeId}{n:Nat}{w w':World}{s:Sl}{xs:List Value}(h:OwnN e n w s xs)(u:Upd none_ w w'):OwnN e n w' s xs:=h.upd u fun _ _=>id
theorem K_wx:∀ (l pre rest:List Value),l.length=rest.length→(l.zipIdx pre.length).foldl (fun a x=>a.setIfInBounds x.2 x.1) (pre ++ rest).toArray=(pre ++ l).toArray
 | [],pre,rest,h=>by
  have:rest=[]:=List.length_eq_zero_iff.1 h.symm
  rw[this];rfl
 | v :: r,pre,rest,h=>by
  obtain⟨x,q,rfl⟩:∃ x q,rest=x :: q:=by cases rest with
   | nil=>simp at h
   | cons x q=>exact⟨x,q,rfl⟩
  have ih:=K_wx r (pre ++ [v]) q (by simpa using h)
  rw[List.zipIdx_cons,List.foldl_cons]
  have e:((pre ++ x :: q).toArray).setIfInBounds pre.length v=(pre ++ [v] ++ q).toArray:=by simp
  rw[e]
  simpa using ih
theorem K_12g{n:Nat}(z cs:Array Value)(hz:z.size=n)(hc:cs.size=n):Instr.fill (fun i=>some (i*n,n)) z [(0,.agg cs)]=some cs:=by
 have e:(Value.agg cs).cells=cs:=rfl
 subst hc
 have h:=K_wx cs.toList [] z.toList (by simp[hz])
 have e2:cs.zipIdx.toList=cs.toList.zipIdx:=by simp
 have h:List.foldl (fun a x=>a.setIfInBounds x.2 x.1) ([] ++ z.toList).toArray cs.toList.zipIdx=([] ++ cs.toList).toArray:=h
 rw[←e2,Array.foldl_toList]at h
 simp[Instr.fill,e,hz]
 simpa using h
theorem pushN{P:Program}{t e:TypeId}{n bytes:Nat}{z:Array Value}(T:ManyS P t e n z bytes){w:World}{s:Sl}{xs:List Value}(h:OwnN e n w s xs)(hb:(s.len+1)*bytes≤140737488355328)(hm:s.len+1≤16777216){cs:Array Value}(hc:cs.size=n)(h1:∀ v∈cs.toList,v.oneCell'=true)(hn:n≤1000):
  ∃ w1 s' w',bldS P t 1 #[(0,.agg cs)] w=some (⟨some ⟨w.heap.size,0,none⟩,1,1⟩,w1)∧apd P t t (.slice s.a s.len s.cap) (.slice (some ⟨w.heap.size,0,none⟩) 1 1) w1=some (s',w')∧s'.len=s.len+1∧OwnN e n w' s' (xs ++ cs.toList)∧Upd (fun k=>s.blk=some k) w w'∧∀ k,s'.blk=some k→s.blk=some k∨w.heap.size≤k:=by
 obtain⟨i,hi,hsz,hz,hby⟩:=T.info
 have np:=T.np
 have hr:=run_buildSlice (P:=P) w t e 1 #[(0,.agg cs)] cs i (.agg z) T.ht hi hz (by rw[hsz];omega) (by rw[hsz];omega) (by rw[hsz];exact K_12g _ cs (by simp) hc)
 have hw1:(w.alloc (.cells cs e)).heap[w.heap.size]? =some (.cells cs e (0,0)):=heap_alloc_new w _
 have u1:Upd none_ w (w.alloc (.cells cs e)):=Upd.alloc _ _ _
 obtain⟨v',w',hr2,ho,hg,hn2,hbk⟩:=run_append_own_at (P:=P) (w.alloc (.cells cs e)) 0 t 0 e i (.agg z) n i.bytes T.ht hi hz hsz rfl T.zc np _ _ _ (h.upd0 u1) ⟨w.heap.size,0,none⟩ 1 1 cs.toList (by simp[hc]) (fun j u hj=>by
  rw[add_lit,Nat.zero_add]
  exact((Bk.new w cs e).cell j).trans hj) h1 (by simp only[maxLen];omega) (by rw[hby];exact hb) (Nat.zero_le _)
 have hs':∃ s':Sl,v'= .slice s'.a s'.len s'.cap∧s'.len=s.len+1:=by
  rcases ho.2 with ⟨rfl,h0⟩ | ⟨g,cap,cur,rfl,_⟩
  ·omega
  ·exact⟨⟨some ⟨g,0,none⟩,s.len+1,cap⟩,rfl,rfl⟩
 obtain⟨s',rfl,hl⟩:=hs'
 have e1:∀ u:Sl,(Value.slice u.a u.len u.cap).ownBlock=u.blk:=by
  intro u
  cases ha:u.a with
  | none=>simp[Value.ownBlock,Sl.blk,ha]
  | some q=>simp[Value.ownBlock,Sl.blk,ha]
 rw[e1,e1]at hbk
 refine⟨w.alloc (.cells cs e),s',w',?_,?_,hl,by unfold OwnN;rw[hl];rw[←hl]at ho ⊢;exact ho,(u1.mono (T:=fun k=>s.blk=some k) fun _ _ e=>e.elim).trans' ((Upd.of_grown hg).mono fun k _ hk=>by rw[e1]at hk;exact hk.symm) fun _ _ e=>e,fun k hk=>?_⟩
 ·unfold bldS;rw[hr]
 ·unfold apd;rw[hr2]
 ·rcases hbk with e0 | e0
  ·rw[e0]at hk;exact .inl hk
  ·rw[e0]at hk
   have e2:(w.alloc (.cells cs e)).heap.size=k:=Option.some.inj hk
   exact .inr (by have:=u1.size;omega)
end Go.Sh

namespace Go.Sh
open Go.Fw Go.Gf Go.RowKit Go.Proofs.Tryd
theorem K_wh{α:Type}{n:Nat}(d:List α):∀ (ss:List (List α)) (i:Nat),(∀ s∈ss,s.length=n)→i<ss.length→(ss.flatten.drop (i*n)).take n=ss.getD i d
 | [],i,_,h=>by simp at h
 | s :: r,0,h,_=>by
  have hs:=h s (List.mem_cons_self ..)
  rw[Nat.zero_mul,List.drop_zero,List.flatten_cons,List.take_append_of_le_length (by omega),List.take_of_length_le (by omega)];rfl
 | s :: r,i+1,h,hi=>by
  have hs:=h s (List.mem_cons_self ..)
  have ih:=K_wh d r i (fun x hx=>h x (List.mem_cons_of_mem _ hx)) (by simpa using hi)
  have e:(i+1)*n=s.length+i*n:=by rw[Nat.add_mul,Nat.one_mul,hs];omega
  rw[e,List.flatten_cons,←List.drop_drop,List.drop_left,ih];rfl
theorem OwnN.bk{e:TypeId}{n:Nat}{w:World}{s:Sl}{xs:List Value}(h:OwnN e n w s xs)(hne:0<s.len):∃ g cs,s.a=some ⟨g,0,none⟩∧Bk e w g cs∧cs.take (s.len*n)=xs∧s.len*n≤cs.length:=by
 rcases h.2 with ⟨_,h2⟩ | ⟨g,cap,cur,h1,_,h2,h3,_,h5,h6⟩
 ·omega
 ·refine⟨g,cur.toList,by injection h1,h2,h6,?_⟩
  rw[Array.length_toList,h5]
  exact Nat.mul_le_mul_right n h3
def StrS(e:TypeId)(n:Nat)(w:World)(s:Sl)(ss:List (List Value)):Prop:=OwnN e n w s ss.flatten∧s.len=ss.length∧∀ x∈ss,x.length=n
theorem StrS.at{e:TypeId}{n:Nat}{w:World}{s:Sl}{ss:List (List Value)}(h:StrS e n w s ss){i:Nat}(hi:i<ss.length):
  ∃ g cs,s.a=some ⟨g,0,none⟩∧Bk e w g cs∧ldA n ⟨g,i*n,none⟩ w=some (ss.getD i []).toArray∧∀ j,j<n→cs[i*n+j]? =(ss.getD i [])[j]?:=by
 obtain⟨ho,hl,hn⟩:=h
 obtain⟨g,cs,a1,a2,a3,a4⟩:=ho.bk (by omega)
 have hin:(i+1)*n≤s.len*n:=Nat.mul_le_mul_right n (by omega)
 rw[Nat.add_mul,Nat.one_mul]at hin
 have hd:(cs.drop (i*n)).take n=ss.getD i []:=by
  rw[←K_wh [] ss i hn hi,←a3,List.drop_take,List.take_take]
  congr 1;omega
 refine⟨g,cs,a1,a2,?_,fun j hj=>?_⟩
 ·rw[a2.ldA (by omega),hd]
 ·rw[←hd,List.getElem?_take,if_pos hj,List.getElem?_drop]
theorem StrS.upd0{e:TypeId}{n:Nat}{w w':World}{s:Sl}{ss:List (List Value)}(h:StrS e n w s ss)(u:Upd none_ w w'):StrS e n w' s ss:=⟨h.1.upd0 u,h.2⟩
theorem StrS.upd{e:TypeId}{n:Nat}{w w':World}{s:Sl}{ss:List (List Value)}{S:Nat→Prop}(h:StrS e n w s ss)(u:Upd S w w')(hn:∀ k,s.blk=some k→¬S k):StrS e n w' s ss:=⟨h.1.upd u hn,h.2⟩
theorem StrS.nil(e:TypeId)(n:Nat)(w:World):StrS e n w ⟨none,0,0⟩ []:=⟨OwnN.nil e n w,rfl,fun _ h=>by cases h⟩
end Go.Sh

namespace Go.Sh
open Go.Fw Go.Gf Go.RowKit Go.Proofs.Tryd
theorem manySh:ManyS prog 108 102 5 z102 56:=⟨by kernel_rfl,⟨t102,by kernel_rfl,by kernel_rfl,by kernel_rfl,by kernel_rfl⟩,by decide,rfl,by decide⟩
theorem manyPt:ManyS prog 129 105 6 z105 64:=⟨by kernel_rfl,⟨t105,by kernel_rfl,by kernel_rfl,by kernel_rfl,by kernel_rfl⟩,by decide,rfl,by decide⟩
end Go.Sh

namespace Go.Sh
open Go.Fw Go.Gf Go.Sha Go.RowKit Go.Proofs.Tryd
structure ShAt(B:Nat) (w:World) (all:Sl) (svs:List Sl) (L:List (List F)):Prop where
 len:svs.length=L.length
 str:StrS 102 5 w all ((L.zip svs).map fun p=>shareC p.1 p.2)
 src:∀ i,i<L.length→BSrc w (svs.getD i nilF) (valsP (L.getD i []))
 low:∀ k,all.blk=some k→B≤k
 off:∀ i,i<L.length→∀ q,(svs.getD i nilF).a=some q→all.blk≠some q.block∧B≤q.block∧q.block<w.heap.size
theorem ShAt.upd{B:Nat}{w w':World}{all:Sl}{svs:List Sl}{L:List (List F)}{X:Nat→Prop}(h:ShAt B w all svs L)(u:Upd X w w')(hn:∀ k,B≤k→k<w.heap.size→¬X k):ShAt B w' all svs L:=
 ⟨h.len,h.str.upd u fun k hk=>hn k (h.low k hk) (h.str.1.lt hk),fun i hi=>Fw.Src.upd (h.src i hi) u fun q hq=>hn _ (h.off i hi q hq).2.1 (h.off i hi q hq).2.2,h.low,fun i hi q hq=>⟨(h.off i hi q hq).1,(h.off i hi q hq).2.1,Nat.lt_of_lt_of_le (h.off i hi q hq).2.2 u.size⟩⟩
theorem ShAt.upd0{B:Nat}{w w':World}{all:Sl}{svs:List Sl}{L:List (List F)}(h:ShAt B w all svs L)(u:Upd none_ w w'):ShAt B w' all svs L:=h.upd u fun _ _ _=>id
theorem ShAt.nil(B:Nat)(w:World):ShAt B w ⟨none,0,0⟩ [] []:=⟨rfl,StrS.nil _ _ _,fun i hi=>absurd hi (Nat.not_lt_zero i),(fun k hk=>by cases hk),fun i hi=>absurd hi (Nat.not_lt_zero i)⟩
theorem ShAt.size{B:Nat}{w:World}{all:Sl}{svs:List Sl}{L:List (List F)}(h:ShAt B w all svs L):all.len=L.length:=by
 rw[h.str.2.1,List.length_map,List.length_zip,h.len,Nat.min_self]
theorem K_7f{α:Type}(l m:List α)(i:Nat)(d:α)(h:i<l.length):(l ++ m).getD i d=l.getD i d:=by rw[J_gd,List.getElem?_append_left h,J_gd]
theorem K_bf{α:Type}(l:List α)(a d:α){n:Nat}(h:l.length=n):(l ++ [a]).getD n d=a:=by rw[J_gd,List.getElem?_append_right (by omega),h,Nat.sub_self];rfl
theorem K_10c(c:List F)(sv:Sl):(shareC c sv).length=5:=rfl
theorem ShAt.push{B:Nat}{w:World}{all:Sl}{svs:List Sl}{L:List (List F)}(h:ShAt B w all svs L)(hB:B≤w.heap.size)(hl:L.length≤1000){c:List F}{sv:Sl}(hs:BSrc w sv (valsP c))(hf:∀ q,sv.a=some q→all.blk≠some q.block∧B≤q.block∧q.block<w.heap.size):
  ∃ w1 s' w',bldS prog 108 1 #[(0,.agg (shareC c sv).toArray)] w=some (⟨some ⟨w.heap.size,0,none⟩,1,1⟩,w1)∧apd prog 108 108 (.slice all.a all.len all.cap) (.slice (some ⟨w.heap.size,0,none⟩) 1 1) w1=some (s',w')∧ShAt B w' s' (svs ++ [sv]) (L ++ [c])∧Upd (fun k=>all.blk=some k) w w'∧∀ k,s'.blk=some k→all.blk=some k∨w.heap.size≤k:=by
 have hsz:=h.size
 obtain⟨w1,s',w',a1,a2,a3,a4,a5,a6⟩:=pushN manySh h.str.1 (cs:=(shareC c sv).toArray) (by omega) (by omega) rfl (fun v hv=>by
  simp only[shareC,shL,List.cons_append,List.nil_append,List.mem_cons,List.not_mem_nil,or_false]at hv
  rcases hv with rfl | rfl | rfl | rfl | rfl <;> rfl) (by omega)
 have q:=a5.size
 have hnb:∀ k,k<w.heap.size→all.blk≠some k→s'.blk≠some k:=fun k h1 h2 e=>(a6 k e).elim h2 fun e2=>by omega
 refine⟨w1,s',w',a1,a2,⟨by rw[List.length_append,List.length_append,h.len];rfl,⟨?_,?_,?_⟩,fun i hi=>?_,fun k hk=>(a6 k hk).elim (h.low k) fun e=>by omega,fun i hi q2 hq=>?_⟩,a5,a6⟩
 ·rw[List.zip_append h.len.symm,List.map_append,List.flatten_append]
  have e:((([c].zip [sv]).map fun p=>shareC p.1 p.2).flatten:List Value)=(shareC c sv).toArray.toList:=rfl
  rw[e];exact a4
 ·rw[a3,hsz,List.length_map,List.length_zip,List.length_append,List.length_append,h.len];exact(Nat.min_self _).symm
 ·intro x hx
  obtain⟨p,_,rfl⟩:=List.mem_map.1 hx
  rfl
 ·by_cases e:i<L.length
  ·rw[K_7f _ _ _ _ (by rw[h.len];exact e),K_7f _ _ _ _ e]
   exact Fw.Src.upd (h.src i e) a5 fun q hq=>(h.off i e q hq).1
  ·have hi2:i=L.length:=by rw[List.length_append]at hi;have:[c].length=1:=rfl;omega
   subst hi2
   rw[K_bf _ _ _ h.len,K_bf _ _ _ rfl]
   exact Fw.Src.upd hs a5 fun q hq=>(hf q hq).1
 ·have hh:all.blk≠some q2.block∧B≤q2.block∧q2.block<w.heap.size:=by
   by_cases e:i<L.length
   ·rw[K_7f _ _ _ _ (by rw[h.len];exact e)]at hq
    exact h.off i e q2 hq
   ·have hi2:i=L.length:=by rw[List.length_append]at hi;have:[c].length=1:=rfl;omega
    subst hi2
    rw[K_bf _ _ _ h.len]at hq
    exact hf q2 hq
  exact⟨hnb _ hh.2.2 hh.1,hh.2.1,by omega⟩
end Go.Sh

namespace Go.Sh
open Go.Fw Go.Gf Go.Sha Go.RowKit Go.Proofs.Tryd
theorem K_aa{T:List Nat}{r:List (List Nat)}(h:(mendR T).2=none):mendAll (T :: r)=((mendR T).1,[]):=by
 show (match (mendR T).2 with | none=>((mendR T).1,[]) | some x=>((mendAll r).1,x.1 :: (mendAll r).2))=_
 rw[h]
theorem K_77{T:List Nat}{r:List (List Nat)}{x:List F×Nat}(h:(mendR T).2=some x):mendAll (T :: r)=((mendAll r).1,x.1 :: (mendAll r).2):=by
 show (match (mendR T).2 with | none=>((mendR T).1,[]) | some x=>((mendAll r).1,x.1 :: (mendAll r).2))=_
 rw[h]
end Go.Sh

namespace Go.Sh
open Go.Fw Go.Gf Go.Sha Go.RowKit Go.Proofs.Tryd
end Go.Sh

namespace Go.Sh
open Go.Fw Go.Gf Go.Sha Go.RowKit Go.Proofs.Tryd
structure ShSrc(N:Nat) (w:World) (s:Sl) (svs:List Sl) (L:List (List F)):Prop where
 len:s.len=L.length
 cap:s.len≤s.cap
 sl:svs.length=L.length
 cells:L≠[]→∃ g o cs,s.a=some ⟨g,o,none⟩∧g<N∧Bk 102 w g cs∧∀ i,i<L.length→∀ j,j<5→cs[o+i*5+j]? =(shareC (L.getD i []) (svs.getD i nilF))[j]?
 src:∀ i,i<L.length→BSrc w (svs.getD i nilF) (valsP (L.getD i []))
 vlt:∀ i,i<L.length→∀ q,(svs.getD i nilF).a=some q→q.block<N
theorem ShSrc.upd{N:Nat}{w w':World}{s:Sl}{svs:List Sl}{L:List (List F)}{X:Nat→Prop}(h:ShSrc N w s svs L)(u:Upd X w w')(hn:∀ k,k<N→¬X k):ShSrc N w' s svs L:=
 ⟨h.len,h.cap,h.sl,fun hL=>by
  obtain⟨g,o,cs,a1,a2,a3,a4⟩:=h.cells hL
  exact⟨g,o,cs,a1,a2,a3.upd u (hn g a2),a4⟩,fun i hi=>Fw.Src.upd (h.src i hi) u fun q hq=>hn _ (h.vlt i hi q hq),h.vlt⟩
theorem ShSrc.upd0{N:Nat}{w w':World}{s:Sl}{svs:List Sl}{L:List (List F)}(h:ShSrc N w s svs L)(u:Upd none_ w w'):ShSrc N w' s svs L:=h.upd u fun _ _=>id
theorem ShSrc.wide{N M:Nat}{w:World}{s:Sl}{svs:List Sl}{L:List (List F)}(h:ShSrc N w s svs L)(hM:N≤M):ShSrc M w s svs L:=
 ⟨h.len,h.cap,h.sl,fun hL=>by
  obtain⟨g,o,cs,a1,a2,a3,a4⟩:=h.cells hL
  exact⟨g,o,cs,a1,by omega,a3,a4⟩,h.src,fun i hi q hq=>Nat.lt_of_lt_of_le (h.vlt i hi q hq) hM⟩
theorem K_13t{L:List (List F)}{svs:List Sl}(h:svs.length=L.length){i:Nat}(hi:i<L.length):((L.zip svs).map fun p=>shareC p.1 p.2).getD i []=shareC (L.getD i []) (svs.getD i nilF):=by
 rw[J_gd,List.getElem?_map,J_ge (by rw[List.length_zip];omega),List.getElem_zip,J_gd,J_ge hi,J_gd,J_ge (by omega)]
 rfl
theorem OwnN.cap{e:TypeId}{n:Nat}{w:World}{s:Sl}{xs:List Value}(h:OwnN e n w s xs):s.len≤s.cap:=by
 rcases h.2 with ⟨_,h2⟩ | ⟨g,cap,cur,h1,_,h2,h3,_⟩
 ·omega
 ·injection h1 with e1 e2 e3
  omega
theorem ShAt.read{B:Nat}{w:World}{all:Sl}{svs:List Sl}{L:List (List F)}(h:ShAt B w all svs L):ShSrc w.heap.size w all svs L:=by
 refine⟨h.size,h.str.1.cap,h.len,fun hL=>?_,h.src,fun i hi q hq=>(h.off i hi q hq).2.2⟩
 have hpos:0<L.length:=List.length_pos_iff.2 hL
 have hzl:((L.zip svs).map fun p=>shareC p.1 p.2).length=L.length:=by rw[List.length_map,List.length_zip,h.len,Nat.min_self]
 obtain⟨g,cs,a1,a2,_⟩:=h.str.at (i:=0) (by rw[hzl];exact hpos)
 refine⟨g,0,cs,a1,a2.lt,a2,fun i hi j hj=>?_⟩
 obtain⟨g2,cs2,b1,b2,_,b4⟩:=h.str.at (i:=i) (by rw[hzl];exact hi)
 rw[b1]at a1
 have hg:g2=g:=by injection Option.some.inj a1
 subst hg
 have:cs2=cs:=by
  have:some (Obj.cells cs2.toArray 102 (0,0))=some (Obj.cells cs.toArray 102 (0,0)):=b2.symm.trans a2
  injection this with this
  injection this with this
  simpa using this
 rw[←this,Nat.zero_add,b4 j hj,K_13t h.len hi]
theorem K_104(c:List F)(sv:Sl):∀ v∈shareC c sv,v.oneCell'=true:=fun v hv=>K_9l _ _ _ _ _ v hv
theorem ShSrc.ld{N:Nat}{w:World}{s:Sl}{svs:List Sl}{L:List (List F)}(h:ShSrc N w s svs L){i:Nat}(hi:i<L.length):
  ∃ p,s.a=some p∧ldA 5 (p.add (i*5)) w=some (shareC (L.getD i []) (svs.getD i nilF)).toArray∧ldI .u16 (((p.add (i*5)).add 0).add 0) w=some ((setN (L.getD i []):Nat):Int)∧ldI .i64 (((p.add (i*5)).add 0).add 1) w=some ((bAt (L.getD i []) 2:Nat):Int)∧ldI .i64 (((p.add (i*5)).add 0).add 2) w=some ((bAt (L.getD i []) 3:Nat):Int)∧ldI .i64 (((p.add (i*5)).add 0).add 3) w=some ((bAt (L.getD i []) 4:Nat):Int)∧ldS ((p.add (i*5)).add 4) w=some (svs.getD i nilF):=by
 obtain⟨g,o,cs,a1,a2,a3,a4⟩:=h.cells (fun e=>by rw[e]at hi;exact Nat.not_lt_zero i hi)
 refine⟨⟨g,o,none⟩,a1,?_,?_,?_,?_,?_,?_⟩
 ·have h4:=a4 i hi 4 (by omega)
  have hlen:o+i*5+4<cs.length:=(List.getElem?_eq_some_iff.1 (h4.trans rfl)).1
  rw[add_lit,a3.ldA (by omega)]
  congr 2
  apply List.ext_getElem?
  intro j
  rw[List.getElem?_take]
  split
  ·rename_i hj
   rw[List.getElem?_drop,a4 i hi j hj]
  ·rename_i hj
   rw[List.getElem?_eq_none (by rw[K_10c];omega)]
 ·simp only[add_lit,Nat.add_zero];exact a3.ldI (a4 i hi 0 (by omega))
 ·simp only[add_lit,Nat.add_zero];exact a3.ldI (a4 i hi 1 (by omega))
 ·simp only[add_lit,Nat.add_zero];exact a3.ldI (a4 i hi 2 (by omega))
 ·simp only[add_lit,Nat.add_zero];exact a3.ldI (a4 i hi 3 (by omega))
 ·simp only[add_lit,Nat.add_zero];exact a3.ldS (a4 i hi 4 (by omega))
theorem K_bo{α:Type}(l:List α)(n i:Nat)(d:α)(h:i<n):(l.take n).getD i d=l.getD i d:=by rw[J_gd,List.getElem?_take_of_lt h,J_gd]
theorem K_e1{α:Type}(l:List α)(n i:Nat)(d:α):(l.drop n).getD i d=l.getD (n+i) d:=by rw[J_gd,List.getElem?_drop,J_gd]
theorem ShSrc.take{N:Nat}{w:World}{s:Sl}{svs:List Sl}{L:List (List F)}(h:ShSrc N w s svs L){n:Nat}(hn:n≤L.length):ShSrc N w ⟨sla s.a 0 s.cap 5,n - 0,s.cap - 0⟩ (svs.take n) (L.take n):=by
 have hc:=h.cap
 have hl:=h.len
 have hs:=h.sl
 rw[sla_zero,Nat.sub_zero,Nat.sub_zero]
 refine⟨by rw[List.length_take];show n=_;omega,by show n≤s.cap;omega,by rw[List.length_take,List.length_take,hs],fun hL=>?_,fun i hi=>?_,fun i hi q hq=>?_⟩
 ·have hL0:L≠[]:=fun e=>hL (by rw[e,List.take_nil])
  obtain⟨g,o,cs,a1,a2,a3,a4⟩:=h.cells hL0
  refine⟨g,o,cs,a1,a2,a3,fun i hi j hj=>?_⟩
  rw[List.length_take]at hi
  rw[K_bo _ _ _ _ (by omega),K_bo _ _ _ _ (by omega)]
  exact a4 i (by omega) j hj
 ·rw[List.length_take]at hi
  rw[K_bo _ _ _ _ (by omega),K_bo _ _ _ _ (by omega)]
  exact h.src i (by omega)
 ·rw[List.length_take]at hi
  rw[K_bo _ _ _ _ (by omega)]at hq
  exact h.vlt i (by omega) q hq
theorem ShSrc.drop{N:Nat}{w:World}{s:Sl}{svs:List Sl}{L:List (List F)}(h:ShSrc N w s svs L){n:Nat}(hn:n≤L.length):ShSrc N w ⟨sla s.a n s.cap 5,s.len - n,s.cap - n⟩ (svs.drop n) (L.drop n):=by
 have hc:=h.cap
 have hl:=h.len
 have hs:=h.sl
 refine⟨by rw[List.length_drop];show s.len - n=_;omega,by show s.len - n≤s.cap - n;omega,by rw[List.length_drop,List.length_drop,hs],fun hL=>?_,fun i hi=>?_,fun i hi q hq=>?_⟩
 ·have hL0:L≠[]:=fun e=>hL (by rw[e,List.drop_nil])
  have hlt:n<L.length:=by
   apply Classical.byContradiction
   intro hc2
   exact hL (List.drop_eq_nil_of_le (by omega))
  obtain⟨g,o,cs,a1,a2,a3,a4⟩:=h.cells hL0
  refine⟨g,o+n*5,cs,?_,a2,a3,fun i hi j hj=>?_⟩
  ·show sla s.a n s.cap 5=_
   unfold sla
   rw[if_neg (by omega),a1,Option.map_some,add_lit]
  ·rw[List.length_drop]at hi
   rw[K_e1,K_e1,←a4 (n+i) (by omega) j hj]
   congr 1
   rw[Nat.add_mul];omega
 ·rw[List.length_drop]at hi
  rw[K_e1,K_e1]
  exact h.src (n+i) (by omega)
 ·rw[List.length_drop]at hi
  rw[K_e1]at hq
  exact h.vlt (n+i) (by omega) q hq
theorem cpS(w:World)(c:List F)(sv:Sl):∃ w1 w2,newB z102 102 w=some (⟨w.heap.size,0,none⟩,w1)∧stA ⟨w.heap.size,0,none⟩ (shareC c sv).toArray w1=some w2∧Bk 102 w2 w.heap.size (shareC c sv)∧Upd none_ w w2∧w.heap.size<w2.heap.size:=by
 obtain⟨w1,a1,a2,a3,a4⟩:=K_g z102 102 w
 have a2:Bk 102 w1 w.heap.size share0:=by rw[K_dc]at a2;exact a2
 obtain⟨w2,b1,b2,b3⟩:=a2.stA (o:=0) (vs:=(shareC c sv).toArray) (by simp[share0,shareC,shL]) (fun v hv=>K_104 c sv v hv)
 have b2:Bk 102 w2 w.heap.size (shareC c sv):=b2
 have q:=b3.size
 exact⟨w1,w2,a1,b1,b2,a3.trans' b3 fun k hk e=>by omega,by omega⟩
theorem K_2s{w:World}{g:Nat}{c:List F}{sv:Sl}(b:Bk 102 w g (shareC c sv)):
  ldA 5 (⟨g,0,none⟩:Addr) w=some (shareC c sv).toArray∧ldI .u16 (((⟨g,0,none⟩:Addr).add 0).add 0) w=some ((setN c:Nat):Int)∧ldI .i64 (((⟨g,0,none⟩:Addr).add 0).add 1) w=some ((bAt c 2:Nat):Int)∧ldI .i64 (((⟨g,0,none⟩:Addr).add 0).add 2) w=some ((bAt c 3:Nat):Int)∧ldI .i64 (((⟨g,0,none⟩:Addr).add 0).add 3) w=some ((bAt c 4:Nat):Int)∧ldS ((⟨g,0,none⟩:Addr).add 4) w=some sv:=by
 refine⟨?_,?_,?_,?_,?_,?_⟩
 ·have:=b.ldA (i:=0) (n:=5) (by simp[shareC,shL])
  exact this
 ·simp only[add_lit,Nat.zero_add];exact b.ldI rfl
 ·simp only[add_lit,Nat.zero_add];exact b.ldI rfl
 ·simp only[add_lit,Nat.zero_add];exact b.ldI rfl
 ·simp only[add_lit,Nat.zero_add];exact b.ldI rfl
 ·simp only[add_lit,Nat.zero_add];exact b.ldS rfl
end Go.Sh

namespace Go.Sh
open Go.Fw Go.Gf Go.Sha Go.RowKit Go.Proofs.Tryd
theorem K_zr{K:Nat}{a b:Sl}{l m:List F}(hl:l.length=m.length)(hb:l.length≤1000000):
  ∀ (d i f:Nat) (w:World),i+d=l.length→d<f→BSrc w a l→BSrc w b m→∃ w',K_f K f a b ((l.length:Nat):Int) (i:Int) w=some (if l.drop i=m.drop i then .norm () else .ret (false,()),w')∧Upd none_ w w':=by
 intro d
 induction d with
 | zero=>
  intro i f w hi hf ha hbs
  obtain⟨f,rfl⟩:∃ q,f=q+1:=⟨f - 1,by omega⟩
  refine⟨w,?_,Upd.refl _ _⟩
  rw[List.drop_eq_nil_of_le (by omega),List.drop_eq_nil_of_le (by omega),if_pos rfl]
  show K_m K (K_f K f) a b ((l.length:Nat):Int) (i:Int) w=_
  unfold K_m
  rw[if_neg (by simp only[decide_eq_true_eq];omega)]
 | succ d ih=>
  intro i f w hi hf ha hbs
  obtain⟨f,rfl⟩:∃ q,f=q+1:=⟨f - 1,by omega⟩
  have hal:a.len=l.length:=by rw[ha.len,K_0]
  have hbl:b.len=m.length:=by rw[hbs.len,K_0]
  have ud:=(Upd.refl none_ w).drew
  have e3:IntKind.i64.wrap ((i:Int)+1)=((i+1:Nat):Int):=by rw[w64 (by omega) (by omega)];rfl
  have h1:i<l.length:=by omega
  have h2:i<m.length:=by omega
  obtain⟨p,p1,p2⟩:=K_2b (ha.upd0 ud) h1
  obtain⟨q,q1,q2⟩:=K_2b (hbs.upd0 ud) h2
  have c1:(0:Int)≤(i:Int)∧(i:Int)<((a.len:Nat):Int):=by omega
  have c2:(0:Int)≤(i:Int)∧(i:Int)<((b.len:Nat):Int):=by omega
  obtain⟨w',k1,k2⟩:=ih (i+1) f w.drew (by omega) (by omega) (ha.upd0 ud) (hbs.upd0 ud)
  have hd:(l.drop i=m.drop i)↔(l[i]=m[i]∧l.drop (i+1)=m.drop (i+1)):=by
   rw[List.drop_eq_getElem_cons h1,List.drop_eq_getElem_cons h2,List.cons.injEq]
  by_cases c:l[i]=m[i]
  ·refine⟨w',?_,k2.predrew⟩
   show K_m K (K_f K f) a b ((l.length:Nat):Int) (i:Int) w=_
   unfold K_m
   rw[if_pos (decide_eq_true (show (i:Int)<((l.length:Nat):Int) by omega)),p1,J_bs,if_pos c1,q1,J_bs,if_pos c2,J_tn,Nat.mul_one,p2,J_bs,q2,J_bs,if_neg (by rw[c];simp),e3,k1]
   by_cases e:l.drop (i+1)=m.drop (i+1)
   ·rw[if_pos e,if_pos (hd.2 ⟨c,e⟩)]
   ·rw[if_neg e,if_neg (fun h=>e (hd.1 h).2)]
  ·refine⟨w.drew,?_,ud⟩
   show K_m K (K_f K f) a b ((l.length:Nat):Int) (i:Int) w=_
   unfold K_m
   rw[if_pos (decide_eq_true (show (i:Int)<((l.length:Nat):Int) by omega)),p1,J_bs,if_pos c1,q1,J_bs,if_pos c2,J_tn,Nat.mul_one,p2,J_bs,q2,J_bs,if_pos (by rw[bne_iff_ne];exact fun e=>c (K_xa e)),if_neg (fun h=>c (hd.1 h).1)]
theorem K_rl{K:Nat}(hK:18446744073709551616≤K){w:World}{a b:Sl}{l m:List F}(ha:BSrc w a l)(hb:BSrc w b m)(hl:l.length≤1000000):
  ∃ w',K_t K a b w=some ((decide (l=m),()),w')∧Upd none_ w w':=by
 have hal:a.len=l.length:=by rw[ha.len,K_0]
 have hbl:b.len=m.length:=by rw[hb.len,K_0]
 unfold K_t
 by_cases c:l.length=m.length
 ·obtain⟨w',k1,k2⟩:=K_zr (K:=K) c hl l.length 0 K w (by omega) (by omega) ha hb
  have k1:K_f K K a b ((l.length:Nat):Int) 0 w=_:=k1
  refine⟨w',?_,k2⟩
  rw[if_neg (by rw[hal,hbl,c];simp),hal,k1,bnd_ok,List.drop_zero,List.drop_zero]
  by_cases e:l=m
  ·rw[if_pos e,decide_eq_true e]
  ·rw[if_neg e,decide_eq_false e]
 ·refine⟨w,?_,Upd.refl _ _⟩
  rw[if_pos (by rw[hal,hbl,bne_iff_ne];omega),decide_eq_false (fun e=>c (by rw[e]))]
def idxF(c:List F):F:=b8 (bAt c 3)
theorem K_15e{K:Nat}(hK:300≤K){N:Nat}{s:Sl}{svs:List Sl}{L:List (List F)}(hL:L.length≤1000){i g:Nat}(hg:N≤g){c:List F}{sv:Sl}{x:F}{out a26:Sl}{a27 a28:Int}:
  ∀ (d k m:Nat) (w:World) (v:F),k+d=L.length→d<m→ShSrc N w s svs L→Bk 102 w g (shareC c sv)→
   ∃ w',K_1c K m s (bF x) out (i:Int) ⟨g,0,none⟩ (bF v) a26 a27 a28 s ((L.length:Nat):Int) (k:Int) w=some ((bF (wgt x (idxF c) i k ((L.drop k).map idxF) v),()),w')∧Upd none_ w w':=by
 intro d
 induction d with
 | zero=>
  intro k m w v hk hm hS hb
  obtain⟨m,rfl⟩:∃ q,m=q+1:=⟨m - 1,by omega⟩
  refine⟨w,?_,Upd.refl _ _⟩
  rw[List.drop_eq_nil_of_le (by omega)]
  show K_1t K (K_1c K m) s (bF x) out (i:Int) ⟨g,0,none⟩ (bF v) a26 a27 a28 s ((L.length:Nat):Int) (k:Int) w=_
  unfold K_1t
  rw[if_neg (by simp only[decide_eq_true_eq];omega)];rfl
 | succ d ih=>
  intro k m w v hk hm hS hb
  obtain⟨m,rfl⟩:∃ q,m=q+1:=⟨m - 1,by omega⟩
  have hkl:k<L.length:=by omega
  have e3:IntKind.i64.wrap ((k:Int)+1)=((k+1:Nat):Int):=by rw[w64 (by omega) (by omega)];rfl
  obtain⟨p,p1,p2,_⟩:=hS.ld hkl
  obtain⟨w1,w2,q1,q2,q3,q4,q5⟩:=cpS w (L.getD k []) (svs.getD k nilF)
  have hsz:(shareC (L.getD k []) (svs.getD k nilF)).toArray.size=5:=rfl
  have c1:(0:Int)≤(k:Int)∧(k:Int)<((s.len:Nat):Int):=by rw[hS.len];omega
  have hd:(L.drop k).map idxF=idxF (L.getD k []) :: (L.drop (k+1)).map idxF:=by
   rw[List.drop_eq_getElem_cons hkl,List.map_cons,J_gd,J_ge hkl];rfl
  have hw:wgt x (idxF c) i k ((L.drop k).map idxF) v=wgt x (idxF c) i (k+1) ((L.drop (k+1)).map idxF) (if k=i then v else v*((x+idxF (L.getD k []))*(idxF c+idxF (L.getD k [])).inv)):=by rw[hd];rfl
  rw[hw]
  by_cases c2:k=i
  ·rw[if_pos c2]
   obtain⟨w',k1,k2⟩:=ih (k+1) m w2 v (by omega) (by omega) (hS.upd0 q4) (hb.upd0 q4)
   refine⟨w',?_,q4.and0 k2⟩
   show K_1t K (K_1c K m) s (bF x) out (i:Int) ⟨g,0,none⟩ (bF v) a26 a27 a28 s ((L.length:Nat):Int) (k:Int) w=_
   unfold K_1t
   rw[if_pos (decide_eq_true (show (k:Int)<((L.length:Nat):Int) by omega)),p1,J_bs,if_pos c1,J_tn,p2,J_bs,q1,bnd_ok,if_pos hsz,q2,J_bs,if_neg (by rw[bne_iff_ne];omega),e3,k1]
  ·rw[if_neg c2]
   have u2:Upd none_ w w2.drew:=q4.drew
   obtain⟨w',k1,k2⟩:=ih (k+1) m w2.drew (v*((x+idxF (L.getD k []))*(idxF c+idxF (L.getD k [])).inv)) (by omega) (by omega) (hS.upd0 u2) (hb.upd0 u2)
   obtain⟨_,_,_,l3,_⟩:=K_2s q3.drew
   obtain⟨_,_,_,m3,_⟩:=K_2s (hb.upd0 u2)
   refine⟨w',?_,u2.and0 k2⟩
   show K_1t K (K_1c K m) s (bF x) out (i:Int) ⟨g,0,none⟩ (bF v) a26 a27 a28 s ((L.length:Nat):Int) (k:Int) w=_
   unfold K_1t
   have x1:bits .xor .u8 (bF x) (IntKind.u8.wrap ((bAt (L.getD k []) 3:Nat):Int))=bF (x+idxF (L.getD k [])):=by rw[K_9c];exact addF _ _
   have x2:bits .xor .u8 (IntKind.u8.wrap ((bAt c 3:Nat):Int)) (IntKind.u8.wrap ((bAt (L.getD k []) 3:Nat):Int))=bF (idxF c+idxF (L.getD k [])):=by rw[K_9c,K_9c];exact addF _ _
   rw[if_pos (decide_eq_true (show (k:Int)<((L.length:Nat):Int) by omega)),p1,J_bs,if_pos c1,J_tn,p2,J_bs,q1,bnd_ok,if_pos hsz,q2,J_bs,if_pos (by rw[bne_iff_ne];omega),l3,J_bs,m3,J_bs,J_bs,x1,x2,K_si hK,J_bs,tm hK,J_bs,tm hK,J_bs,e3,k1]
theorem K_14i{K:Nat}(hK:300≤K){s out a26 sv:Sl}{x wt:F}{a27 a28:Int}{V O:List F}(hVO:O.length=V.length)(hV:V.length≤1000)(hne:∀ q,sv.a=some q→out.blk≠some q.block):
  ∀ (d k m:Nat) (w:World),k+d=V.length→d<m→BSrc w sv V→OwnS 5 w out (fb (pless k O V wt))→
   ∃ w',K_1r K m s (bF x) out (bF wt) a26 a27 a28 sv ((V.length:Nat):Int) (k:Int) w=some ((),w')∧OwnS 5 w' out (fb (xorR O (V.map (wt* ·))))∧Upd (fun k=>out.blk=some k) w w':=by
 intro d
 induction d with
 | zero=>
  intro k m w hk hm hs ho
  obtain⟨m,rfl⟩:∃ q,m=q+1:=⟨m - 1,by omega⟩
  have e:pless k O V wt=xorR O (V.map (wt* ·)):=by
   unfold pless
   rw[List.take_of_length_le (by omega),List.take_of_length_le (by omega),List.drop_eq_nil_of_le (by omega),List.append_nil]
  rw[e]at ho
  refine⟨w,?_,ho,Upd.refl _ _⟩
  show K_3x K (K_1r K m) s (bF x) out (bF wt) a26 a27 a28 sv ((V.length:Nat):Int) (k:Int) w=_
  unfold K_3x
  rw[if_neg (by simp only[decide_eq_true_eq];omega)]
 | succ d ih=>
  intro k m w hk hm hs ho
  obtain⟨m,rfl⟩:∃ q,m=q+1:=⟨m - 1,by omega⟩
  have hkl:k<V.length:=by omega
  have e3:IntKind.i64.wrap ((k:Int)+1)=((k+1:Nat):Int):=by rw[w64 (by omega) (by omega)];rfl
  obtain⟨p,p1,p2⟩:=K_2b hs hkl
  have hpl:(pless k O V wt).length=O.length:=by
   unfold pless
   rw[List.length_append,xorR_length (by rw[List.length_map,List.length_take,List.length_take,hVO]),List.length_take,List.length_drop];omega
  have hod:=ho.drew
  obtain⟨q,q1,q2⟩:=K_dd hod (i:=k) (by rw[hpl,hVO];exact hkl)
  obtain⟨q',w3,r1,r2,r3,r4⟩:=K_ki hod (i:=k) (by rw[hpl,hVO];exact hkl) ((pless k O V wt).getD k 0+wt*V[k])
  have hol:out.len=O.length:=by rw[ho.len,K_0,hpl]
  have hsl:sv.len=V.length:=by rw[hs.len,K_0]
  have c1:(0:Int)≤(k:Int)∧(k:Int)<((sv.len:Nat):Int):=by omega
  have c2:(0:Int)≤(k:Int)∧(k:Int)<((out.len:Nat):Int):=by omega
  have hset:(pless k O V wt).set k ((pless k O V wt).getD k 0+wt*V[k])=pless (k+1) O V wt:=by
   rw[K_111 hVO (by omega),←K_119 hVO (by omega)]
   congr 2
   rw[J_gd,J_ge hkl];rfl
  obtain rfl:q'=q:=Option.some.inj (r1.symm.trans q1)
  rw[hset]at r3
  have u3:Upd (fun k=>out.blk=some k) w w3:=r4.predrew
  obtain⟨w',k1,k2,k3⟩:=ih (k+1) m w3 (by omega) (by omega) (Fw.Src.upd hs u3 fun q hq=>hne q hq) r3
  refine⟨w',?_,k2,u3.trans' k3 fun _ _ e=>e⟩
  show K_3x K (K_1r K m) s (bF x) out (bF wt) a26 a27 a28 sv ((V.length:Nat):Int) (k:Int) w=_
  unfold K_3x
  rw[if_pos (decide_eq_true (show (k:Int)<((V.length:Nat):Int) by omega)),p1,J_bs,if_pos c1,J_tn,Nat.mul_one,p2,J_bs,q1,J_bs,if_pos c2,q2,J_bs,tm hK,J_bs,J_bs,if_pos c2]
  dsimp only
  rw[addF,r2,J_bs,e3,k1]
def betG(all:List F)(x:F):Nat→List (List F)→List F→List F
 | _,[],O=>O
 | i,c :: r,O=>betG all x (i+1) r (xorR O ((valsP c).map (wgt x (idxF c) i 0 all 1* ·)))
theorem K_qf(all:List F)(x:F){n:Nat}:∀ (L:List (List F)) (i:Nat) (O:List F),O.length=n→(∀ c∈L,(valsP c).length=n)→(betG all x i L O).length=n
 | [],_,O,h,_=>h
 | c :: r,i,O,h,hc=>K_qf all x r (i+1) _ (by rw[xorR_length (by rw[List.length_map,h,hc c (List.mem_cons_self ..)]),h]) fun c' h'=>hc c' (List.mem_cons_of_mem _ h')
theorem K_xn(all:List F)(x:F){n:Nat}(v:Nat):∀ (L:List (List F)) (i:Nat) (O:List F),O.length=n→(∀ c∈L,(valsP c).length=n)→
  (betG all x i L O).getD v 0=lagG all x i (ptsL L v) (O.getD v 0)
 | [],_,O,h,_=>rfl
 | c :: r,i,O,h,hc=>by
  have hl:O.length=((valsP c).map (wgt x (idxF c) i 0 all 1* ·)).length:=by rw[List.length_map,h,hc c (List.mem_cons_self ..)]
  have ih:=K_xn all x v r (i+1) (xorR O ((valsP c).map (wgt x (idxF c) i 0 all 1* ·))) (by rw[xorR_length hl,h]) fun c' h'=>hc c' (List.mem_cons_of_mem _ h')
  show (betG all x (i+1) r _).getD v 0=_
  rw[ih,K_13y _ hl,Gf.getD_map0 _ (F.mul_zero _)]
  rfl
theorem K_11f{L:List (List F)}{n:Nat}(hc:∀ c∈L,(valsP c).length=n)(x:F):betG (L.map idxF) x 0 L (List.replicate n 0)=betwL L L.length n x:=by
 have hlen:=K_qf (L.map idxF) x L 0 (List.replicate n 0) List.length_replicate hc
 have hp:∀ v,(ptsL L v).map (·.1)=L.map idxF:=fun v=>by unfold ptsL;rw[List.map_map];rfl
 apply List.ext_getElem
 ·rw[hlen];simp[betwL]
 ·intro v h1 h2
  have h:=K_xn (L.map idxF) x v L 0 (List.replicate n 0) List.length_replicate hc
  rw[J_gd,J_ge h1,Option.getD_some]at h
  have e:(betwL L L.length n x)[v]=lag (ptsL L v) x:=by simp[betwL]
  rw[h,e]
  unfold lag
  rw[hp]
  congr 1
  rw[J_gd,List.getElem?_replicate]
  split <;> rfl
theorem K_14f{K:Nat}(hK:18446744073709551616≤K){N n:Nat}{s:Sl}{svs:List Sl}{L:List (List F)}(hL:L.length≤1000)(hc:∀ c∈L,(valsP c).length=n)(hn:n≤1000){x:F}{out:Sl}(hob:∀ k,out.blk=some k→N≤k):
  ∀ (d i m:Nat) (w:World) (O:List F),i+d=L.length→d<m→N≤w.heap.size→O.length=n→ShSrc N w s svs L→OwnS 5 w out (fb O)→
   ∃ w',K_1o K m s (bF x) out s ((L.length:Nat):Int) (i:Int) w=some ((),w')∧OwnS 5 w' out (fb (betG (L.map idxF) x i (L.drop i) O))∧Upd (fun k=>out.blk=some k) w w':=by
 intro d
 induction d with
 | zero=>
  intro i m w O hi hm hN hO hS ho
  obtain⟨m,rfl⟩:∃ q,m=q+1:=⟨m - 1,by omega⟩
  refine⟨w,?_,by rw[List.drop_eq_nil_of_le (by omega)];exact ho,Upd.refl _ _⟩
  show K_44 K (K_1o K m) s (bF x) out s ((L.length:Nat):Int) (i:Int) w=_
  unfold K_44
  rw[if_neg (by simp only[decide_eq_true_eq];omega)]
 | succ d ih=>
  intro i m w O hi hm hN hO hS ho
  obtain⟨m,rfl⟩:∃ q,m=q+1:=⟨m - 1,by omega⟩
  have hil:i<L.length:=by omega
  have e3:IntKind.i64.wrap ((i:Int)+1)=((i+1:Nat):Int):=by rw[w64 (by omega) (by omega)];rfl
  obtain⟨p,p1,p2,_⟩:=hS.ld hil
  obtain⟨w1,w2,q1,q2,q3,q4,q5⟩:=cpS w (L.getD i []) (svs.getD i nilF)
  have hsz:(shareC (L.getD i []) (svs.getD i nilF)).toArray.size=5:=rfl
  have c1:(0:Int)≤(i:Int)∧(i:Int)<((s.len:Nat):Int):=by rw[hS.len];omega
  have hmem:L.getD i []∈L:=by rw[J_gd,J_ge hil];exact List.getElem_mem hil
  have hV:=hc _ hmem
  have hd:L.drop i=L.getD i [] :: L.drop (i+1):=by
   rw[List.drop_eq_getElem_cons hil,J_gd,J_ge hil];rfl
  obtain⟨w3,r1,r2⟩:=K_15e (K:=K) (by omega) hL (i:=i) hN (c:=L.getD i []) (sv:=svs.getD i nilF) (x:=x) (out:=out) (a26:=s) (a27:=((L.length:Nat):Int)) (a28:=(i:Int)) L.length 0 K w2 1 (by omega) (by omega) (hS.upd0 q4) q3
  have r1:K_1c K K s (bF x) out (i:Int) ⟨w.heap.size,0,none⟩ 1 s ((L.length:Nat):Int) (i:Int) s ((L.length:Nat):Int) 0 w2=_:=r1
  have u3:=q4.and0 r2
  obtain⟨_,_,_,_,_,l5⟩:=K_2s (q3.upd0 r2)
  have hsrc:=(hS.upd0 u3).src i hil
  have hsl:(svs.getD i nilF).len=(valsP (L.getD i [])).length:=by rw[hsrc.len,K_0]
  have hp0:pless 0 O (valsP (L.getD i [])) (wgt x (idxF (L.getD i [])) i 0 (L.map idxF) 1)=O:=rfl
  obtain⟨w4,s1,s2,s3⟩:=K_14i (K:=K) (by omega) (s:=s) (out:=out) (a26:=s) (x:=x) (a27:=((L.length:Nat):Int)) (a28:=(i:Int)) (V:=valsP (L.getD i [])) (O:=O) (by omega) (by omega) (fun q hq e=>by have:=hS.vlt i hil q hq;have:=hob _ e;omega) (valsP (L.getD i [])).length 0 K w3 (by omega) (by omega) hsrc (by rw[hp0];exact ho.upd0 u3)
  have s1:K_1r K K s (bF x) out (bF (wgt x (idxF (L.getD i [])) i 0 (L.map idxF) 1)) s ((L.length:Nat):Int) (i:Int) (svs.getD i nilF) ((valsP (L.getD i [])).length:Int) 0 w3=_:=s1
  have u4:Upd (fun k=>out.blk=some k) w w4:=(u3.mono (T:=fun k=>out.blk=some k) fun _ _ e=>e.elim).trans' s3 fun _ _ e=>e
  have z4:=u4.size
  obtain⟨w',k1,k2,k3⟩:=ih (i+1) m w4 _ (by omega) (by omega) (by omega) (by rw[xorR_length (by rw[List.length_map];omega),hO]) (hS.upd u4 fun k hk e=>by have:=hob k e;omega) s2
  refine⟨w',?_,by rw[hd];exact k2,u4.trans' k3 fun _ _ e=>e⟩
  show K_44 K (K_1o K m) s (bF x) out s ((L.length:Nat):Int) (i:Int) w=_
  unfold K_44
  rw[if_pos (decide_eq_true (show (i:Int)<((L.length:Nat):Int) by omega)),p1,J_bs,if_pos c1,J_tn,p2,J_bs,q1,bnd_ok,if_pos hsz,q2,J_bs,hS.len,r1,bnd_ok,l5,J_bs,hsl]
  dsimp only
  rw[List.drop_zero,s1,bnd_ok,e3,k1]
theorem K_136(w:World){n:Nat}(hn:n≤1099511627776):
  ∃ w',mkS prog 23 (.int .i64 (n:Int)) (.int .i64 (n:Int)) w=some (⟨some ⟨w.heap.size,0,none⟩,n,n⟩,w')∧OwnS 5 w' ⟨some ⟨w.heap.size,0,none⟩,n,n⟩ (ints .u8 (List.replicate n 0))∧Upd none_ w w':=by
 obtain⟨i,hi,hsz,hz,hby⟩:=sliceB.info
 obtain⟨w',hr,ho,hg⟩:=run_make_full (P:=prog) w 0 23 5 i (.int .u8 0) 1 sliceB.ht hi hz hsz .i64 .i64 n (by rw[hby];omega) (by simp only[maxLen];omega) (Nat.zero_le _)
 obtain⟨s,h1,h2,h3⟩:=OwnS.of_row ho
 have hs:s=⟨some ⟨w.heap.size,0,none⟩,n,n⟩:=by
  cases s
  simp only[Value.slice.injEq]at h1
  simp[←h1.1,←h1.2.1,←h1.2.2]
 have hc:(madeCells (Value.int .u8 0).cells (n*1)).toList=ints .u8 (List.replicate n 0):=by
  apply List.ext_getElem
  ·simp[madeCells]
  ·intro k h1 h2;simp[madeCells,Nat.mod_one,Value.cells]
 rw[hs,hc]at h3
 refine⟨w',?_,h3,(Upd.of_grown hg).mono fun k _ e=>by cases e⟩
 unfold mkS
 rw[hr]
theorem K_13a(n:Nat):fb (List.replicate n 0)=ints .u8 (List.replicate n 0):=by unfold fb;rw[List.map_replicate];rfl
theorem K_zs(L:List (List F)){need:Nat}(h:need≤L.length)(n:Nat)(x:F):betwL (L.take need) (L.take need).length n x=betwL L need n x:=by
 unfold betwL
 rw[List.take_length]
theorem K_la{K:Nat}(hK:18446744073709551616≤K){w:World}{N n need:Nat}{s:Sl}{svs:List Sl}{L:List (List F)}(hS:ShSrc N w s svs L)(hN:N≤w.heap.size)(h0:1≤need)(hneed:need≤L.length)(hb:bAt (L.getD 0 []) 2=need)(hL:L.length≤1000)(hc:∀ c∈L,(valsP c).length=n)(hn:n≤1000)(x:F):
  ∃ s' w',K_1f K s (bF x) w=some ((s',()),w')∧OwnS 5 w' s' (fb (betwL L need n x))∧Upd none_ w w'∧Fresh w.heap.size s'∧s'.len=n:=by
 have h0l:0<L.length:=by omega
 obtain⟨p,p1,_,_,p2,_⟩:=hS.ld (i:=0) h0l
 have hT:=hS.take hneed
 have htl:(L.take need).length=need:=by rw[List.length_take];omega
 obtain⟨p',p1',_,_,_,_,_,p3⟩:=hT.ld (i:=0) (by omega)
 have hsz:=hS.len
 have hcap:=hS.cap
 have hmem:L.getD 0 []∈L:=by rw[J_gd,J_ge h0l];exact List.getElem_mem h0l
 rw[K_bo _ _ _ _ (by omega)]at p3
 have hsl:(svs.getD 0 nilF).len=n:=by rw[(hS.src 0 h0l).len,K_0,hc _ hmem]
 obtain⟨w1,m1,m2,m3⟩:=K_136 w (n:=n) (by omega)
 rw[←K_13a]at m2
 obtain⟨w2,k1,k2,k3⟩:=K_14f hK (N:=N) (n:=n) (by omega) (fun c h=>hc c (List.mem_of_mem_take h)) hn (x:=x) (out:=⟨some ⟨w.heap.size,0,none⟩,n,n⟩) (fun k e=>by have e:w.heap.size=k:=Option.some.inj e;omega) (L.take need).length 0 K w1 _ (by omega) (by omega) (Nat.le_trans hN m3.size) List.length_replicate (hT.upd0 m3) m2
 rw[List.drop_zero,K_11f (fun c h=>hc c (List.mem_of_mem_take h)),K_zs L hneed]at k2
 have hl2:(((need - 0:Nat)):Int)=(((L.take need).length:Nat):Int):=by omega
 have k1:K_1o K K ⟨sla s.a 0 s.cap 5,need - 0,s.cap - 0⟩ (bF x) ⟨some ⟨w.heap.size,0,none⟩,n,n⟩ ⟨sla s.a 0 s.cap 5,need - 0,s.cap - 0⟩ (((L.take need).length:Nat):Int) 0 w1=_:=k1
 refine⟨_,w2,?_,k2,m3.trans' k3 fun k hk e=>by have e:w.heap.size=k:=Option.some.inj e;omega,fun k e=>by have e:w.heap.size=k:=Option.some.inj e;omega,rfl⟩
 unfold K_1f
 have c1:(0:Int)≤0∧(0:Int)<((s.len:Nat):Int):=by omega
 have c2:(0:Int)≤((need:Nat):Int)∧((need:Nat):Int)≤((s.cap:Nat):Int):=by omega
 have c3:(0:Int)≤0∧(0:Int)<(((need - 0:Nat)):Int):=by omega
 have p1':sla s.a 0 s.cap 5=some p':=p1'
 rw[p1,J_bs,if_pos c1,p2,J_bs,hb,if_pos c2,J_tn,←p1,p1',J_bs,if_pos c3,p3,J_bs,hsl,m1,bnd_ok,←p1',hl2,k1,bnd_ok]
end Go.Sh

namespace Go.Sh
open Go.Fw Go.Gf Go.Sha Go.RowKit Go.Proofs.Tryd
theorem K_ce(L:List (List F))(need n:Nat)(x:F):(betwL L need n x).length=n:=by simp[betwL]
theorem K_16e{K:Nat}(hK:18446744073709551616≤K){N n need:Nat}{s a12:Sl}{svs svd:List Sl}{L D:List (List F)}(h0:1≤need)(hneed:need≤L.length)(hb:bAt (L.getD 0 []) 2=need)(hL:L.length≤1000)(hD:D.length≤1000)(hc:∀ c∈L,(valsP c).length=n)(hn:n≤1000):
  ∀ (d i m:Nat) (w:World),i+d=D.length→d<m→N≤w.heap.size→ShSrc N w s svs L→ShSrc N w a12 svd D→
   ∃ w',K_2q K m s a12 ((D.length:Nat):Int) (i:Int) w=some (if ∀ c∈D.drop i,betwL L need n (idxF c)=valsP c then .norm () else .ret (117,()),w')∧Upd none_ w w':=by
 intro d
 induction d with
 | zero=>
  intro i m w hi hm hN hS hA
  obtain⟨m,rfl⟩:∃ q,m=q+1:=⟨m - 1,by omega⟩
  refine⟨w,?_,Upd.refl _ _⟩
  rw[List.drop_eq_nil_of_le (by omega),if_pos (fun c h=>by cases h)]
  show K_3j K (K_2q K m) s a12 ((D.length:Nat):Int) (i:Int) w=_
  unfold K_3j
  rw[if_neg (by simp only[decide_eq_true_eq];omega)]
 | succ d ih=>
  intro i m w hi hm hN hS hA
  obtain⟨m,rfl⟩:∃ q,m=q+1:=⟨m - 1,by omega⟩
  have hil:i<D.length:=by omega
  have e3:IntKind.i64.wrap ((i:Int)+1)=((i+1:Nat):Int):=by rw[w64 (by omega) (by omega)];rfl
  obtain⟨p,p1,p2,_⟩:=hA.ld hil
  obtain⟨w1,w2,q1,q2,q3,q4,q5⟩:=cpS w (D.getD i []) (svd.getD i nilF)
  have hsz:(shareC (D.getD i []) (svd.getD i nilF)).toArray.size=5:=rfl
  have c1:(0:Int)≤(i:Int)∧(i:Int)<((a12.len:Nat):Int):=by rw[hA.len];omega
  have u2:Upd none_ w w2.drew:=q4.drew
  obtain⟨_,_,_,l3,_,l5⟩:=K_2s q3.drew
  obtain⟨s',w3,r1,r2,r3,r4,r5⟩:=K_la hK (hS.upd0 u2) (Nat.le_trans hN u2.size) h0 hneed hb hL hc hn (idxF (D.getD i []))
  obtain⟨_,_,_,_,_,m5⟩:=K_2s (q3.drew.upd0 r3)
  have u3:=u2.and0 r3
  obtain⟨w4,t1,t2⟩:=K_rl hK (r2.src (K_14 _)) ((hA.upd0 u3).src i hil) (by rw[K_ce];omega)
  have u4:=u3.and0 t2
  have hd:D.drop i=D.getD i [] :: D.drop (i+1):=by
   rw[List.drop_eq_getElem_cons hil,J_gd,J_ge hil];rfl
  have x1:IntKind.u8.wrap ((bAt (D.getD i []) 3:Nat):Int)=bF (idxF (D.getD i [])):=K_9c
  by_cases c:betwL L need n (idxF (D.getD i []))=valsP (D.getD i [])
  ·obtain⟨w',k1,k2⟩:=ih (i+1) m w4 (by omega) (by omega) (Nat.le_trans hN u4.size) (hS.upd0 u4) (hA.upd0 u4)
   refine⟨w',?_,u4.and0 k2⟩
   show K_3j K (K_2q K m) s a12 ((D.length:Nat):Int) (i:Int) w=_
   unfold K_3j
   rw[if_pos (decide_eq_true (show (i:Int)<((D.length:Nat):Int) by omega)),p1,J_bs,if_pos c1,J_tn,p2,J_bs,q1,bnd_ok,if_pos hsz,q2,J_bs,l3,J_bs,l5,J_bs,x1,r1,bnd_ok,m5,J_bs,K_7,t1,bnd_ok,decide_eq_true c,if_neg (by decide),e3,k1]
   by_cases e:∀ c∈D.drop (i+1),betwL L need n (idxF c)=valsP c
   ·rw[if_pos e,if_pos (by
     intro c' hc'
     rw[hd]at hc'
     rcases List.mem_cons.1 hc' with rfl | h
     ·exact c
     ·exact e c' h)]
   ·rw[if_neg e,if_neg (fun h=>e fun c' hc'=>h c' (by rw[hd];exact List.mem_cons_of_mem _ hc'))]
  ·refine⟨w4,?_,u4⟩
   show K_3j K (K_2q K m) s a12 ((D.length:Nat):Int) (i:Int) w=_
   unfold K_3j
   rw[if_pos (decide_eq_true (show (i:Int)<((D.length:Nat):Int) by omega)),p1,J_bs,if_pos c1,J_tn,p2,J_bs,q1,bnd_ok,if_pos hsz,q2,J_bs,l3,J_bs,l5,J_bs,x1,r1,bnd_ok,m5,J_bs,K_7,t1,bnd_ok,decide_eq_false c,if_pos (by decide),if_neg (fun h=>c (h _ (by rw[hd];exact List.mem_cons_self ..)))]
theorem K_16d{K:Nat}(hK:18446744073709551616≤K){w:World}{C S:List Int}(T:Tabs w C S){N need size:Nat}{s:Sl}{svs:List Sl}{L:List (List F)}(hS:ShSrc N w s svs L)(hN:N≤w.heap.size)(h0:1≤need)(hneed:need≤L.length)(hb:bAt (L.getD 0 []) 2=need)(hz:bAt (L.getD 0 []) 4=size)(hL:L.length≤1000)(hc:∀ c∈L,(valsP c).length=size+4):
  ∃ w',K_9m K s w=some ((if fitL C S L (setN (L.getD 0 [])) need size then 0 else 117,()),w')∧Upd none_ w w':=by
 have h0l:0<L.length:=by omega
 have hzs:size<256:=by rw[←hz];exact K_c9 _ _
 obtain⟨p,p1,_,pS,p2,_,pZ,_⟩:=hS.ld (i:=0) h0l
 have hD:=hS.drop hneed
 have hsl:=hS.len
 obtain⟨w1,k1,k2⟩:=K_16e hK (N:=N) (n:=size+4) h0 hneed hb hL (D:=L.drop need) (by rw[List.length_drop];omega) hc (by omega) (L.drop need).length 0 K w (by omega) (by rw[List.length_drop];omega) hN hS hD
 have k1:K_2q K K s ⟨sla s.a need s.cap 5,s.len - need,s.cap - need⟩ (((L.drop need).length:Nat):Int) 0 w=_:=k1
 have hl2:(((s.len - need:Nat)):Int)=(((L.drop need).length:Nat):Int):=by rw[List.length_drop];omega
 have c1:(0:Int)≤0∧(0:Int)<((s.len:Nat):Int):=by omega
 have c2:(0:Int)≤((need:Nat):Int)∧((need:Nat):Int)≤((s.len:Nat):Int):=by omega
 unfold K_9m
 rw[p1,J_bs,if_pos c1,p2,J_bs,hb,if_pos c2,J_tn,hl2,←p1,k1,bnd_ok]
 by_cases c:∀ c∈L.drop need,betwL L need (size+4) (idxF c)=valsP c
 ·rw[List.drop_zero,if_pos c]
  dsimp only
  obtain⟨s',w2,r1,r2,r3,r4,r5⟩:=K_la hK (hS.upd0 k2) (Nat.le_trans hN k2.size) h0 hneed hb hL hc (by omega) 0
  have r1:K_1f K s 0 w1=_:=r1
  have u2:Upd none_ w w2.drew:=(k2.and0 r3).drew
  obtain⟨p',p1',_,pS',_,_,pZ',_⟩:=(hS.upd0 u2).ld (i:=0) h0l
  have hcap:=r2.cap
  have c3:(0:Int)≤((size:Nat):Int)∧((size:Nat):Int)≤((s'.cap:Nat):Int):=by omega
  have hsrc:BSrc w2.drew ⟨sla s'.a 0 s'.cap 1,size - 0,s'.cap - 0⟩ ((betwL L need (size+4) 0).take size):=by
   rw[sla_zero,Nat.sub_zero,Nat.sub_zero]
   have:=(r2.drew.src (K_14 _)).cut (n:=size) (by omega)
   rw[K_g1]at this;exact this
  obtain⟨s3,w3,t1,t2,t3,t4⟩:=K_11l hK (T.upd0 u2) (set:=setN (L.getD 0 [])) hsrc (by rw[List.length_take];omega)
  obtain⟨w4,v1,v2⟩:=K_rl hK (t2.src (K_14 _)) ((r2.drew.upd0 t3).src (K_14 _)) (by rw[K_tf,List.length_take];omega)
  refine⟨w4,?_,(u2.and0 t3).and0 v2⟩
  rw[r1,bnd_ok,p1',J_bs,if_pos c1,J_bs,if_pos c1,pS',J_bs,pZ',J_bs,hz,if_pos c3,J_tn,t1,bnd_ok,v1,bnd_ok]
  by_cases e:betwL L need (size+4) 0=rowP C S (setN (L.getD 0 [])) ((betwL L need (size+4) 0).take size)
  ·rw[decide_eq_true e.symm,if_neg (by decide),if_pos (by unfold fitL;exact decide_eq_true ⟨c,e⟩)]
  ·rw[decide_eq_false (fun h=>e h.symm),if_pos (by decide),if_neg (fun h=>by unfold fitL at h;exact e (of_decide_eq_true h).2)]
 ·rw[List.drop_zero,if_neg c]
  dsimp only
  refine⟨w1,?_,k2⟩
  rw[if_neg (fun h=>by unfold fitL at h;exact c (of_decide_eq_true h).1)]
end Go.Sh

namespace Go.Fw
open Go.MapKept
def MapAt(w:World)(r:Nat)(l:List (Int×Value)):Prop:=∃ es clock,w.heap[r]? =some (.map es clock)∧es.toList.map (fun x=>(x.key,x.val))=l.map fun p=>(Value.int .i64 p.1,p.2)
theorem MapAt.lt{w:World}{r:Nat}{l:List (Int×Value)}(h:MapAt w r l):r<w.heap.size:=by
 obtain⟨es,clock,h1,_⟩:=h
 exact(Array.getElem?_eq_some_iff.1 h1).1
theorem MapAt.upd{S:Nat→Prop}{w w':World}{r:Nat}{l:List (Int×Value)}(h:MapAt w r l)(u:Upd S w w')(hn:¬S r):MapAt w' r l:=by
 have hl:=h.lt
 obtain⟨es,clock,h1,h2⟩:=h
 exact⟨es,clock,(u.block r hl hn).trans h1,h2⟩
theorem MapAt.upd0{w w':World}{r:Nat}{l:List (Int×Value)}(h:MapAt w r l)(u:Upd none_ w w'):MapAt w' r l:=h.upd u id
theorem K_16j(P:Program)(t:TypeId)(w:World):∃ w',mmk P t none w=some (.map (some w.heap.size),w')∧MapAt w' w.heap.size []∧Upd none_ w w'∧w.heap.size<w'.heap.size:=by
 refine⟨w.alloc (.map #[] 0),rfl,⟨#[],0,heap_alloc_new w _,rfl⟩,Upd.alloc _ _ _,by simp⟩
def mapGet(l:List (Int×Value))(k:Int):Option Value:=(l.find? fun p=>p.1 == k).map (·.2)
theorem K_j0:∀ (es:List MapEntry) (l:List (Int×Value)) (i:Nat) (k:Int),es.map (fun x=>(x.key,x.val))=l.map (fun p=>(Value.int .i64 p.1,p.2))→
  match mapGet l k with
  | some v=>∃ j,Instr.findNow (.int .i64) (.int .i64 k) es i=some (some (j,v))
  | none=>Instr.findNow (.int .i64) (.int .i64 k) es i=some none
 | [],[],i,k,_=>rfl
 | [],p :: l,i,k,h=>by simp at h
 | e :: es,[],i,k,h=>by simp at h
 | e :: es,p :: l,i,k,h=>by
  rw[List.map_cons,List.map_cons]at h
  injection h with h1 h2
  injection h1 with h3 h4
  have ih:=K_j0 es l (i+1) k h2
  obtain⟨a,v⟩:=p
  dsimp only at h3 h4
  unfold mapGet at ih ⊢
  rw[List.find?_cons]
  dsimp only
  by_cases c:a=k
  ·have c1:(a == k)=true:=by simp[c]
   have c2:(k == a)=true:=by simp[c]
   rw[c1]
   refine⟨i,?_⟩
   simp[Instr.findNow,h3,Instr.sameNow,c2,h4]
  ·have c1:(a == k)=false:=by simp[c]
   have c2:(k == a)=false:=by simp;exact fun e=>c e.symm
   rw[c1]
   have e:Instr.findNow (.int .i64) (.int .i64 k) (e :: es) i=Instr.findNow (.int .i64) (.int .i64 k) es (i+1):=by
    simp[Instr.findNow,h3,Instr.sameNow,c2]
   rw[e];exact ih
theorem K_15z{P:Program}{t kt et:TypeId}(ht:P.underlying t=some (.map kt et))(hk:P.underlying kt=some (.int .i64)){z:Value}{w:World}(hz:(zeroValue et).run P w= .ok z w){r:Nat}{l:List (Int×Value)}(h:MapAt w r l)(k:Int):
  lkp P t (.map (some r)) (.int .i64 k) true w=some (.tuple #[(mapGet l k).getD z,.bool (mapGet l k).isSome],w):=by
 obtain⟨es,clock,hb,he⟩:=h
 have hf:=K_j0 es.toList l 0 k he
 unfold lkp
 have hkey:IsKey (.int .i64) (.int .i64 k):=rfl
 cases hg:mapGet l k with
 | none=>
  rw[hg]at hf
  have hf:Instr.findNow (.int .i64) (.int .i64 k) es.toList 0=some none:=hf
  simp[Instr.lookup,run_underlying ht,MapKept.run_getObj_map hb,MapKept.run_checkKey hk hkey,MapKept.run_findKey hk hf,hz,Result.andThen]
 | some v=>
  rw[hg]at hf
  obtain⟨j,hf⟩:=hf
  simp[Instr.lookup,run_underlying ht,MapKept.run_getObj_map hb,MapKept.run_checkKey hk hkey,MapKept.run_findKey hk hf,Result.andThen]
theorem K_13h{P:Program}{t kt et:TypeId}(ht:P.underlying t=some (.map kt et))(hk:P.underlying kt=some (.int .i64)){w:World}{r:Nat}{l:List (Int×Value)}(h:MapAt w r l)(k:Int)(v:Value)(hn:mapGet l k=none):
  ∃ w',mput P t (.map (some r)) (.int .i64 k) v w=some ((),w')∧MapAt w' r (l ++ [(k,v)])∧Upd (· =r) w w':=by
 obtain⟨es,clock,hb,he⟩:=h
 have hf:=K_j0 es.toList l 0 k he
 rw[hn]at hf
 have hf:Instr.findNow (.int .i64) (.int .i64 k) es.toList 0=some none:=hf
 have hkey:IsKey (.int .i64) (.int .i64 k):=rfl
 have hs:=MapKept.heap_set (o':=Obj.map (es.push ⟨.int .i64 k,v,clock⟩) (clock+1)) hb
 refine⟨{w with heap:=w.heap.setIfInBounds r (.map (es.push ⟨.int .i64 k,v,clock⟩) (clock+1))},?_,⟨_,_,hs.1,?_⟩,⟨rfl,rfl,rfl,by simp,fun j _ hj=>hs.2 j hj⟩⟩
 ·unfold mput
  simp[Instr.mapUpdate,run_underlying ht,MapKept.run_getObj_map hb,MapKept.run_checkKey hk hkey,MapKept.run_findKey hk hf,MapKept.run_setObj_map _ hb,Result.andThen]
 ·simp[he]
theorem K_13i{P:Program}{t:TypeId}{i:TypeInfo}{z:Value}(hi:P.info? t=some i)(hz:i.zero=some z)(w:World):(zeroValue t).run P w= .ok z w:=by
 simp[zeroValue,typeInfo,run_program,hi,hz,Result.andThen]
end Go.Fw

namespace Go.Sh
open Go.Fw Go.Gf Go.Sha Go.RowKit Go.Proofs.Tryd
theorem K_iz:∀ (Ts:List (List Nat)),∀ c∈(mendAll Ts).2,fitB c=true
 | [],c,h=>by cases h
 | T :: r,c,h=>by
  cases hr:(mendR T).2 with
  | none=>rw[K_aa hr]at h;cases h
  | some x=>
   rw[K_77 hr]at h
   rcases List.mem_cons.1 h with rfl | h
   ·exact(K_so (c:=x.1) (n:=x.2) hr).2.1
   ·exact K_iz r c h
theorem K_io:∀ (Ts:List (List Nat)),(mendAll Ts).2.length≤Ts.length
 | []=>Nat.le_refl _
 | T :: r=>by
  have:=K_io r
  cases hr:(mendR T).2 with
  | none=>rw[K_aa hr];exact Nat.zero_le _
  | some x=>rw[K_77 hr,List.length_cons,List.length_cons];omega
theorem K_do{α:Type}{l:List α}{i:Nat}(d:α)(h:i<l.length):l.drop i=l.getD i d :: l.drop (i+1):=by
 rw[List.drop_eq_getElem_cons h,J_gd,J_ge h];rfl
def TextsL(ts:List ByteArray)(Ts:List (List Nat)):Prop:=Ts.length=ts.length∧∀ j,j<ts.length→IsText (ts.getD j str0) (Ts.getD j [])∧∀ c∈Ts.getD j [],c<256
theorem K_14z{K:Nat}(hK:18446744073709551616≤K){a:Sl}{ts:List ByteArray}{Ts:List (List Nat)}(hT:TextsL ts Ts)(hl:ts.length≤1000){B:Nat}(hab:∀ q,a.a=some q→ts≠[]→q.block<B):
  ∀ (d i m:Nat) (w:World) (all:Sl) (svs:List Sl) (L:List (List F)),i+d=ts.length→d<m→B≤w.heap.size→Src w a (tx ts)→L.length=i→ShAt B w all svs L→
   ∃ w',Upd (fun k=>all.blk=some k) w w'∧if (mendAll (Ts.drop i)).1=0 then ∃ all' svs',K_o K m all a ((ts.length:Nat):Int) (i:Int) w=some (.norm (all',()),w')∧ShAt B w' all' svs' (L ++ (mendAll (Ts.drop i)).2)
    else K_o K m all a ((ts.length:Nat):Int) (i:Int) w=some (.ret (⟨none,0,0⟩,(mendAll (Ts.drop i)).1,()),w'):=by
 intro d
 induction d with
 | zero=>
  intro i m w all svs L hi hm hB hs hL hA
  obtain⟨m,rfl⟩:∃ q,m=q+1:=⟨m - 1,by omega⟩
  rw[List.drop_eq_nil_of_le (by have:=hT.1;omega)]
  refine⟨w,Upd.refl _ _,?_⟩
  rw[if_pos (show (mendAll []).1=0 from rfl)]
  refine⟨all,svs,?_,by show ShAt B w all svs (L ++ []);rw[List.append_nil];exact hA⟩
  show K_62 K (K_o K m) all a ((ts.length:Nat):Int) (i:Int) w=_
  unfold K_62
  rw[if_neg (by simp only[decide_eq_true_eq];omega)]
 | succ d ih=>
  intro i m w all svs L hi hm hB hs hL hA
  obtain⟨m,rfl⟩:∃ q,m=q+1:=⟨m - 1,by omega⟩
  have hil:i<ts.length:=by omega
  have hTl:=hT.1
  obtain⟨hT1,hT2⟩:=hT.2 i hil
  have e3:IntKind.i64.wrap ((i:Int)+1)=((i+1:Nat):Int):=by rw[w64 (by omega) (by omega)];rfl
  obtain⟨p,p1,p2⟩:=tx_at hs hil
  have hti:ts[i]=ts.getD i str0:=by rw[J_gd,J_ge hil];rfl
  have hal:a.len=ts.length:=by rw[hs.len,K_4t]
  have c1:(0:Int)≤(i:Int)∧(i:Int)<((a.len:Nat):Int):=by omega
  have htne:ts≠[]:=fun e=>by rw[e]at hil;exact Nat.not_lt_zero i hil
  rw[hti]at p2
  obtain⟨cs,n,w1,a1,a2,a3⟩:=K_11n hK w hT1 hT2
  have hd:Ts.drop i=Ts.getD i [] :: Ts.drop (i+1):=K_do [] (by omega)
  have step:K_o K (m+1) all a ((ts.length:Nat):Int) (i:Int) w=(bnd (some ((cs,n,(mendR (Ts.getD i [])).1,()),w1):Option ((Array Value×Int×Int×Unit)×World)) fun r_3 w_4=>
    bnd (newB z102 102 w_4) fun s_5 w_6=>
    if (r_3.1).size=5 then((stA s_5 r_3.1 w_6).bind fun w_7=>
    if (r_3.2.2.1 != 0)=true then(some (.ret (⟨none,0,0⟩,r_3.2.2.1,()),w_7)) else((ldA 5 s_5 w_7).bind fun v_8=>
    bnd (bldS prog 108 1 #[(0,(.agg v_8))] w_7) fun s_9 w_10=>
    bnd (apd prog 108 108 (.slice all.a all.len all.cap) (.slice s_9.a s_9.len s_9.cap) w_10) fun s_11 w_12=>
    K_o K m s_11 a ((ts.length:Nat):Int) (IntKind.i64.wrap ((i:Int)+1)) w_12)) else none):=by
   show K_62 K (K_o K m) all a ((ts.length:Nat):Int) (i:Int) w=_
   unfold K_62
   rw[if_pos (decide_eq_true (show (i:Int)<((ts.length:Nat):Int) by omega)),p1,J_bs,if_pos c1,J_tn,Nat.mul_one,p2,J_bs,a1]
  cases hr:(mendR (Ts.getD i [])).2 with
  | none=>
   rw[hr]at a3
   obtain⟨_,h2⟩:=a3
   have hne:=K_zy hr
   have hM:mendAll (Ts.drop i)=((mendR (Ts.getD i [])).1,[]):=by rw[hd];exact K_aa hr
   obtain⟨w2,b1,b2,b3,b4⟩:=K_g z102 102 w1
   have b2:Bk 102 w2 w1.heap.size share0:=by rw[K_dc]at b2;exact b2
   obtain⟨w3,c2,_,c3⟩:=b2.stA (o:=0) (vs:=share0.toArray) (by simp[share0,shL]) (fun v hv=>K_9l _ _ _ _ _ v hv)
   have hz:share0.toArray.size=5:=rfl
   refine⟨w3,(((a2.and0 b3).trans' c3 fun k hk e=>by have:=a2.size;omega).mono fun _ _ e=>e.elim),?_⟩
   rw[hM,if_neg hne,step,bnd_ok,b1,bnd_ok,h2,if_pos hz,c2,J_bs,if_pos (by rw[bne_iff_ne];exact hne)]
  | some r=>
   rw[hr]at a3
   obtain⟨_,sv,h2,h3,h4⟩:=a3
   obtain⟨he,hf,hl1,hl2⟩:=K_so (c:=r.1) (n:=r.2) hr
   have hvl:=K_m0 hf
   have hM:mendAll (Ts.drop i)=((mendAll (Ts.drop (i+1))).1,r.1 :: (mendAll (Ts.drop (i+1))).2):=by rw[hd];exact K_77 hr
   obtain⟨w2,w3,b1,b2,b3,b4,b5⟩:=cpS w1 r.1 sv
   have hz:(shareC r.1 sv).toArray.size=5:=rfl
   obtain⟨l1,_⟩:=K_2s b3
   have u3:=a2.and0 b4
   have z3:=u3.size
   have hs3:BSrc w3 sv (valsP r.1):=h3.upd0 b4
   have hvne:valsP r.1≠[]:=fun e=>by rw[e]at hvl;simp at hvl
   obtain⟨w4,s',w5,d1,d2,d3,d4,d5⟩:=(hA.upd0 u3).push (by omega) (by omega) hs3 (fun q hq=>by
    have h5:=h4 q.block (by simp[Sl.blk,hq])
    refine⟨fun e=>by have:=hA.str.1.lt e;omega,by omega,K_bu hs3 q hq hvne⟩)
   have u5:Upd (fun k=>all.blk=some k) w w5:=(u3.mono (T:=fun k=>all.blk=some k) fun _ _ e=>e.elim).trans' d4 fun _ _ e=>e
   have z5:=u5.size
   obtain⟨w',k1,k2⟩:=ih (i+1) m w5 s' (svs ++ [sv]) (L ++ [r.1]) (by omega) (by omega) (by omega) (Fw.Src.upd hs u5 fun q hq e=>by have:=hab q hq htne;have:=hA.low _ e;omega) (by rw[List.length_append,hL];rfl) d3
   refine⟨w',u5.trans' k1 fun k hk e=>(d5 k e).elim id fun e2=>absurd hk (by omega),?_⟩
   have run:K_o K (m+1) all a ((ts.length:Nat):Int) (i:Int) w=K_o K m s' a ((ts.length:Nat):Int) ((i+1:Nat):Int) w5:=by
    rw[step,bnd_ok,b1,bnd_ok,h2,if_pos hz,b2,J_bs,if_neg (by rw[he];decide),l1,J_bs,d1,bnd_ok]
    dsimp only
    rw[d2,bnd_ok,e3]
   rw[hM,run]
   dsimp only
   by_cases c:(mendAll (Ts.drop (i+1))).1=0
   ·rw[if_pos c]at k2 ⊢
    obtain⟨all',svs',k3,k4⟩:=k2
    exact⟨all',svs',k3,by rw[List.append_assoc]at k4;exact k4⟩
   ·rw[if_neg c]at k2 ⊢
    exact k2
theorem K_14b{K:Nat}{N:Nat}{s:Sl}{svs:List Sl}{L:List (List F)}(hL:L.length≤1000)(h0:0<L.length):
  ∀ (d i m:Nat) (w:World),i+d=L.length→d<m→ShSrc N w s svs L→
   ∃ w',K_1m K m s s ((L.length:Nat):Int) (i:Int) w=some (if (L.drop i).all (alikeB (L.getD 0 []))=true then .norm () else .ret (⟨none,0,0⟩,115,()),w')∧Upd none_ w w':=by
 intro d
 induction d with
 | zero=>
  intro i m w hi hm hS
  obtain⟨m,rfl⟩:∃ q,m=q+1:=⟨m - 1,by omega⟩
  refine⟨w,?_,Upd.refl _ _⟩
  rw[List.drop_eq_nil_of_le (by omega),if_pos List.all_nil]
  show K_6e K (K_1m K m) s s ((L.length:Nat):Int) (i:Int) w=_
  unfold K_6e
  rw[if_neg (by simp only[decide_eq_true_eq];omega)]
 | succ d ih=>
  intro i m w hi hm hS
  obtain⟨m,rfl⟩:∃ q,m=q+1:=⟨m - 1,by omega⟩
  have hil:i<L.length:=by omega
  have e3:IntKind.i64.wrap ((i:Int)+1)=((i+1:Nat):Int):=by rw[w64 (by omega) (by omega)];rfl
  obtain⟨p,p1,p2,_⟩:=hS.ld hil
  obtain⟨w1,w2,q1,q2,q3,q4,q5⟩:=cpS w (L.getD i []) (svs.getD i nilF)
  have hsz:(shareC (L.getD i []) (svs.getD i nilF)).toArray.size=5:=rfl
  have c1:(0:Int)≤(i:Int)∧(i:Int)<((s.len:Nat):Int):=by rw[hS.len];omega
  have c0:(0:Int)≤0∧(0:Int)<((s.len:Nat):Int):=by rw[hS.len];omega
  have u2:Upd none_ w w2.drew:=q4.drew
  obtain⟨_,l1,l2,_,l4,_⟩:=K_2s q3.drew
  obtain⟨p',p1',_,m1,m2,_,m4,_⟩:=(hS.upd0 u2).ld (i:=0) h0
  have hpp:p'=p:=Option.some.inj (p1'.symm.trans p1)
  subst hpp
  have hd:L.drop i=L.getD i [] :: L.drop (i+1):=K_do [] hil
  have step:K_1m K (m+1) s s ((L.length:Nat):Int) (i:Int) w =
    if (((setN (L.getD i []):Nat):Int) != ((setN (L.getD 0 []):Nat):Int))=true then(some (.ret (⟨none,0,0⟩,115,()),w2.drew)) else
    if (((bAt (L.getD i []) 2:Nat):Int) != ((bAt (L.getD 0 []) 2:Nat):Int))=true then(some (.ret (⟨none,0,0⟩,115,()),w2.drew)) else
    if (((bAt (L.getD i []) 4:Nat):Int) != ((bAt (L.getD 0 []) 4:Nat):Int))=true then(some (.ret (⟨none,0,0⟩,115,()),w2.drew)) else K_1m K m s s ((L.length:Nat):Int) ((i+1:Nat):Int) w2.drew:=by
   show K_6e K (K_1m K m) s s ((L.length:Nat):Int) (i:Int) w=_
   unfold K_6e
   rw[if_pos (decide_eq_true (show (i:Int)<((L.length:Nat):Int) by omega)),p1,J_bs,if_pos c1,J_tn,p2,J_bs,q1,bnd_ok,if_pos hsz,q2,J_bs,J_bs,if_pos c0,l1,J_bs,m1,J_bs]
   congr 1
   rw[J_bs,if_pos c0,l2,J_bs,m2,J_bs]
   congr 1
   rw[J_bs,if_pos c0,l4,J_bs,m4,J_bs,e3]
  rw[step]
  by_cases h1:setN (L.getD i [])=setN (L.getD 0 [])
  ·rw[if_neg (by rw[bne_iff_ne];omega)]
   by_cases h2:bAt (L.getD i []) 2=bAt (L.getD 0 []) 2
   ·rw[if_neg (by rw[bne_iff_ne];omega)]
    by_cases h3:bAt (L.getD i []) 4=bAt (L.getD 0 []) 4
    ·rw[if_neg (by rw[bne_iff_ne];omega)]
     obtain⟨w',k1,k2⟩:=ih (i+1) m w2.drew (by omega) (by omega) (hS.upd0 u2)
     refine⟨w',?_,u2.and0 k2⟩
     rw[k1,hd,List.all_cons]
     have:alikeB (L.getD 0 []) (L.getD i [])=true:=decide_eq_true ⟨h1,h2,h3⟩
     rw[this,Bool.true_and]
    ·rw[if_pos (by rw[bne_iff_ne];omega),hd,List.all_cons]
     have:alikeB (L.getD 0 []) (L.getD i [])=false:=decide_eq_false fun h=>h3 h.2.2
     rw[this,Bool.false_and,if_neg (by decide)]
     exact⟨_,rfl,u2⟩
   ·rw[if_pos (by rw[bne_iff_ne];omega),hd,List.all_cons]
    have:alikeB (L.getD 0 []) (L.getD i [])=false:=decide_eq_false fun h=>h2 h.2.1
    rw[this,Bool.false_and,if_neg (by decide)]
    exact⟨_,rfl,u2⟩
  ·rw[if_pos (by rw[bne_iff_ne];omega),hd,List.all_cons]
   have:alikeB (L.getD 0 []) (L.getD i [])=false:=decide_eq_false fun h=>h1 h.1
   rw[this,Bool.false_and,if_neg (by decide)]
   exact⟨_,rfl,u2⟩
end Go.Sh

namespace Go.Sh
open Go.Fw Go.Gf Go.Sha Go.RowKit Go.Proofs.Tryd
def mapL(acc:List (List F))(svs:List Sl):List (Int×Value):=(acc.zip svs).map fun p=>(((bAt p.1 3:Nat):Int),Value.agg (shareC p.1 p.2).toArray)
theorem K_xh:∀ (acc:List (List F)) (svs:List Sl) (b:Nat),svs.length=acc.length→
  match acc.find? (fun a=>bAt a 3 == b) with
  | none=>mapGet (mapL acc svs) (b:Int)=none
  | some a=>∃ j,j<acc.length∧acc.getD j []=a∧mapGet (mapL acc svs) (b:Int)=some (.agg (shareC a (svs.getD j nilF)).toArray)
 | [],svs,b,h=>rfl
 | a :: acc,[],b,h=>by simp at h
 | a :: acc,sv :: svs,b,h=>by
  have ih:=K_xh acc svs b (by simpa using h)
  rw[List.find?_cons]
  have e:mapGet (mapL (a :: acc) (sv :: svs)) (b:Int)=if bAt a 3=b then some (.agg (shareC a sv).toArray) else mapGet (mapL acc svs) (b:Int):=by
   unfold mapGet mapL
   rw[List.zip_cons_cons,List.map_cons,List.find?_cons]
   dsimp only
   by_cases c:bAt a 3=b
   ·rw[if_pos c]
    have:((((bAt a 3:Nat):Int)) == (b:Int))=true:=by simp[c]
    rw[this];rfl
   ·rw[if_neg c]
    have:((((bAt a 3:Nat):Int)) == (b:Int))=false:=by simp;omega
    rw[this]
  by_cases c:bAt a 3=b
  ·have c1:(bAt a 3 == b)=true:=by simp[c]
   rw[c1]
   exact⟨0,by simp,rfl,by rw[e,if_pos c];rfl⟩
  ·have c1:(bAt a 3 == b)=false:=by simp[c]
   rw[c1]
   dsimp only
   rw[e,if_neg c]
   cases hf:acc.find? (fun a=>bAt a 3 == b) with
   | none=>rw[hf]at ih;exact ih
   | some x=>
    rw[hf]at ih
    obtain⟨j,h1,h2,h3⟩:=ih
    exact⟨j+1,by simpa using h1,h2,h3⟩
theorem K_11k(acc:List (List F))(svs:List Sl)(h:svs.length=acc.length)(c:List F)(sv:Sl):mapL (acc ++ [c]) (svs ++ [sv])=mapL acc svs ++ [(((bAt c 3:Nat):Int),Value.agg (shareC c sv).toArray)]:=by
 unfold mapL
 rw[List.zip_append h.symm,List.map_append];rfl
theorem K_yt:prog.underlying 133=some (.map 3 102):=by kernel_rfl
theorem K_yg:prog.underlying 3=some (.int .i64):=by kernel_rfl
theorem K_zo(w:World):(zeroValue 102).run prog w= .ok (.agg (shareC [] nilF).toArray) w:=by
 obtain⟨i,hi,_,hz,_⟩:=manySh.info
 rw[K_13i hi hz,K_dc];rfl
theorem ShAt.updS{B:Nat}{w w':World}{all:Sl}{svs:List Sl}{L:List (List F)}{X:Nat→Prop}(h:ShAt B w all svs L)(u:Upd X w w')(h1:∀ k,all.blk=some k→¬X k)(h2:∀ i,i<L.length→∀ q,(svs.getD i nilF).a=some q→¬X q.block):ShAt B w' all svs L:=
 ⟨h.len,h.str.upd u fun k hk=>h1 k hk,fun i hi=>Fw.Src.upd (h.src i hi) u fun q hq=>h2 i hi q hq,h.low,fun i hi q hq=>⟨(h.off i hi q hq).1,(h.off i hi q hq).2.1,Nat.lt_of_lt_of_le (h.off i hi q hq).2.2 u.size⟩⟩
theorem K_12i{K:Nat}(hK:18446744073709551616≤K){w:World}{g1 g2:Nat}{c a:List F}{sv sa:Sl}(b1:Bk 102 w g1 (shareC c sv))(b2:Bk 102 w g2 (shareC a sa))(h1:BSrc w sv (valsP c))(h2:BSrc w sa (valsP a))(hl:(valsP a).length≤1000):
  ∃ w',K_2z K ⟨g1,0,none⟩ ⟨g2,0,none⟩ true w=some ((!decide (valsP a=valsP c),()),w')∧Upd none_ w w':=by
 obtain⟨_,_,_,_,_,l5⟩:=K_2s b1
 obtain⟨_,_,_,_,_,m5⟩:=K_2s b2
 obtain⟨w',k1,k2⟩:=K_rl hK h2 h1 (by omega)
 refine⟨w',?_,k2⟩
 unfold K_2z
 rw[if_pos rfl,m5,J_bs,l5,J_bs,k1,bnd_ok]
theorem K_nv{acc:List (List F)}{c a:List F}{r:List (List F)}(h:acc.find? (fun a=>bAt a 3 == bAt c 3)=some a):ownL acc (c :: r)=if valsP a=valsP c then ownL acc r else none:=by
 show (match acc.find? (fun a=>bAt a 3 == bAt c 3) with | some a=>if valsP a=valsP c then ownL acc r else none | none=>ownL (acc ++ [c]) r)=_
 rw[h]
theorem K_ht{acc:List (List F)}{c:List F}{r:List (List F)}(h:acc.find? (fun a=>bAt a 3 == bAt c 3)=none):ownL acc (c :: r)=ownL (acc ++ [c]) r:=by
 show (match acc.find? (fun a=>bAt a 3 == bAt c 3) with | some a=>if valsP a=valsP c then ownL acc r else none | none=>ownL (acc ++ [c]) r)=_
 rw[h]
theorem K_15g{K:Nat}(hK:18446744073709551616≤K){B B1 r:Nat}(hBB:B≤B1)(hr:B1≤r){s:Sl}{svs:List Sl}{L:List (List F)}(hL:L.length≤1000)(hv:∀ c∈L,(valsP c).length≤1000)(hoff:∀ i,i<L.length→∀ q,(svs.getD i nilF).a=some q→B≤q.block∧q.block<B1):
  ∀ (d i m:Nat) (w:World) (l:Sl) (svl:List Sl) (acc:List (List F)),i+d=L.length→d<m→B1≤w.heap.size→ShSrc B1 w s svs L→ShAt B w l svl acc→(∀ k,l.blk=some k→B1≤k∧k≠r)→(∀ j,j<acc.length→∀ q,(svl.getD j nilF).a=some q→q.block<B1)→MapAt w r (mapL acc svl)→acc.length≤i→(∀ c∈acc,(valsP c).length≤1000)→
   ∃ w',Upd (fun k=>l.blk=some k∨k=r) w w'∧match ownL acc (L.drop i) with
    | some l'=>∃ s' sv',K_c K m (.map (some r)) l s ((L.length:Nat):Int) (i:Int) w=some (.norm (s',()),w')∧ShAt B w' s' sv' l'
    | none=>K_c K m (.map (some r)) l s ((L.length:Nat):Int) (i:Int) w=some (.ret (⟨none,0,0⟩,116,()),w'):=by
 intro d
 induction d with
 | zero=>
  intro i m w l svl acc hi hm hB hS hA hl hvl hM hai hav
  obtain⟨m,rfl⟩:∃ q,m=q+1:=⟨m - 1,by omega⟩
  rw[List.drop_eq_nil_of_le (by omega)]
  refine⟨w,Upd.refl _ _,l,svl,?_,hA⟩
  show K_6k K (K_c K m) (.map (some r)) l s ((L.length:Nat):Int) (i:Int) w=_
  unfold K_6k
  rw[if_neg (by simp only[decide_eq_true_eq];omega)]
 | succ d ih=>
  intro i m w l svl acc hi hm hB hS hA hl hvl hM hai hav
  obtain⟨m,rfl⟩:∃ q,m=q+1:=⟨m - 1,by omega⟩
  have hil:i<L.length:=by omega
  have hrl:=hM.lt
  have e3:IntKind.i64.wrap ((i:Int)+1)=((i+1:Nat):Int):=by rw[w64 (by omega) (by omega)];rfl
  obtain⟨p,p1,p2,_⟩:=hS.ld hil
  obtain⟨w1,w2,q1,q2,q3,q4,q5⟩:=cpS w (L.getD i []) (svs.getD i nilF)
  have hsz:(shareC (L.getD i []) (svs.getD i nilF)).toArray.size=5:=rfl
  have c1:(0:Int)≤(i:Int)∧(i:Int)<((s.len:Nat):Int):=by rw[hS.len];omega
  obtain⟨l0,_,_,l3,_,_⟩:=K_2s q3
  have hd:L.drop i=L.getD i [] :: L.drop (i+1):=K_do [] hil
  have hM2:=hM.upd0 q4
  have hg:=K_xh acc svl (bAt (L.getD i []) 3) hA.len
  have hlk:=K_15z K_yt K_yg (K_zo w2) hM2 ((bAt (L.getD i []) 3:Nat):Int)
  have hmem:L.getD i []∈L:=by rw[J_gd,J_ge hil];exact List.getElem_mem hil
  have step:∀ (cs:Array Value) (b:Bool),lkp prog 133 (.map (some r)) (.int .i64 ((bAt (L.getD i []) 3:Nat):Int)) true w2=some (.tuple #[.agg cs,.bool b],w2)→K_c K (m+1) (.map (some r)) l s ((L.length:Nat):Int) (i:Int) w =
    bnd (newB z102 102 w2) fun old_47 w_48=>
    if cs.size=5 then((stA old_47 cs w_48).bind fun w_49=>
    bnd (K_2z K ⟨w.heap.size,0,none⟩ old_47 b w_49) fun y_54 w_55=>
    if y_54.1=true then(some (.ret (⟨none,0,0⟩,116,()),w_55)) else(if (!b)=true then((ldI .i64 (((⟨w.heap.size,0,none⟩:Addr).add 0).add 2) w_55).bind fun v_56=>
    (ldA 5 ⟨w.heap.size,0,none⟩ w_55).bind fun v_57=>
    bnd (mput prog 133 (.map (some r)) (.int .i64 v_56) (.agg v_57) w_55) fun _ w_58=>
    (ldA 5 ⟨w.heap.size,0,none⟩ w_58).bind fun v_59=>
    bnd (bldS prog 108 1 #[(0,(.agg v_59))] w_58) fun s_60 w_61=>
    bnd (apd prog 108 108 (.slice l.a l.len l.cap) (.slice s_60.a s_60.len s_60.cap) w_61) fun s_62 w_63=>
    K_c K m (.map (some r)) s_62 s ((L.length:Nat):Int) ((i+1:Nat):Int) w_63) else(K_c K m (.map (some r)) l s ((L.length:Nat):Int) ((i+1:Nat):Int) w_55))) else none:=by
   intro cs b hk
   show K_6k K (K_c K m) (.map (some r)) l s ((L.length:Nat):Int) (i:Int) w=_
   unfold K_6k
   rw[if_pos (decide_eq_true (show (i:Int)<((L.length:Nat):Int) by omega)),p1,J_bs,if_pos c1,J_tn,p2,J_bs,q1,bnd_ok,if_pos hsz,q2,J_bs,l3,J_bs,hk,bnd_ok,e3]
   rfl
  cases hf:acc.find? (fun a=>bAt a 3 == bAt (L.getD i []) 3) with
  | some a=>
   rw[hf]at hg
   obtain⟨j,hj,hja,hgm⟩:=hg
   rw[hgm]at hlk
   have run:=step _ _ hlk
   obtain⟨w3,w4,b1,b2,b3,b4,b5⟩:=cpS w2 a (svl.getD j nilF)
   have hz:(shareC a (svl.getD j nilF)).toArray.size=5:=rfl
   have u4:=q4.and0 b4
   have hsa:=hA.src j hj
   rw[hja]at hsa
   have ham:a∈acc:=List.mem_of_find?_eq_some hf
   obtain⟨w5,t1,t2⟩:=K_12i hK (q3.upd0 b4) b3 ((hS.upd0 u4).src i hil) (hsa.upd0 u4) (hav a ham)
   have u5:=u4.and0 t2
   have z5:=u5.size
   rw[hd,K_nv hf]
   by_cases c:valsP a=valsP (L.getD i [])
   ·rw[if_pos c]
    obtain⟨w',k1,k2⟩:=ih (i+1) m w5 l svl acc (by omega) (by omega) (by omega) (hS.upd0 u5) (hA.upd0 u5) hl hvl (hM.upd0 u5) (by omega) hav
    have run2:K_c K (m+1) (.map (some r)) l s ((L.length:Nat):Int) (i:Int) w=K_c K m (.map (some r)) l s ((L.length:Nat):Int) ((i+1:Nat):Int) w5:=by
     rw[run,b1,bnd_ok,if_pos hz,b2,J_bs]
     show bnd (K_2z K ⟨w.heap.size,0,none⟩ ⟨w2.heap.size,0,none⟩ true w4) _=_
     rw[t1,bnd_ok,decide_eq_true c,if_neg (by decide),if_neg (by simp)]
    refine⟨w',(u5.mono (T:=fun k=>l.blk=some k∨k=r) fun _ _ e=>e.elim).trans' k1 fun _ _ e=>e,?_⟩
    rw[run2];exact k2
   ·rw[if_neg c]
    refine⟨w5,u5.mono fun _ _ e=>e.elim,?_⟩
    show K_c K (m+1) (.map (some r)) l s ((L.length:Nat):Int) (i:Int) w=_
    rw[run,b1,bnd_ok,if_pos hz,b2,J_bs]
    show bnd (K_2z K ⟨w.heap.size,0,none⟩ ⟨w2.heap.size,0,none⟩ true w4) _=_
    rw[t1,bnd_ok,decide_eq_false c,if_pos (by decide)]
  | none=>
   rw[hf]at hg
   have hg:mapGet (mapL acc svl) ((bAt (L.getD i []) 3:Nat):Int)=none:=hg
   rw[hg]at hlk
   have run:=step _ _ hlk
   obtain⟨w3,w4,b1,b2,b3,b4,b5⟩:=cpS w2 [] nilF
   have hz:(shareC [] nilF).toArray.size=5:=rfl
   have u4:=q4.and0 b4
   have z4:=u4.size
   have q34:=q3.upd0 b4
   obtain⟨n0,_,_,n3,_,_⟩:=K_2s q34
   obtain⟨w5,m1,m2,m3⟩:=K_13h K_yt K_yg (hM.upd0 u4) ((bAt (L.getD i []) 3:Nat):Int) (.agg (shareC (L.getD i []) (svs.getD i nilF)).toArray) hg
   have z5:=m3.size
   have q35:=q34.upd m3 (fun e=>by omega)
   obtain⟨o0,_⟩:=K_2s q35
   have u5:Upd (fun k=>l.blk=some k∨k=r) w w5:=(u4.mono (T:=fun k=>l.blk=some k∨k=r) fun _ _ e=>e.elim).trans' m3 fun _ _ e=>.inr e
   have hA5:=(hA.upd0 u4).updS m3 (fun k hk e=>(hl k hk).2 e) (fun j hj q hq e=>by have:=hvl j hj q hq;omega)
   have hS5:=(hS.upd0 u4).upd m3 (fun k hk e=>by omega)
   obtain⟨w6,s',w7,d1,d2,d3,d4,d5⟩:=hA5.push (by omega) (by omega) (hS5.src i hil) (fun q hq=>⟨fun e=>by have:=hl _ e;have:=hoff i hil q hq;omega,(hoff i hil q hq).1,by have:=(hoff i hil q hq).2;omega⟩)
   have z7:=d4.size
   have u7:Upd (fun k=>l.blk=some k∨k=r) w w7:=u5.trans' d4 fun _ _ e=>.inl e
   obtain⟨w',k1,k2⟩:=ih (i+1) m w7 s' (svl ++ [svs.getD i nilF]) (acc ++ [L.getD i []]) (by omega) (by omega) (by omega) (hS5.upd d4 fun k hk e=>by have:=hl _ e;omega) d3 (fun k hk=>(d5 k hk).elim (hl k) fun e=>by omega) (fun j hj q hq=>by
     by_cases e:j<acc.length
     ·rw[K_7f _ _ _ _ (by rw[hA.len];exact e)]at hq
      exact hvl j e q hq
     ·have hj2:j=acc.length:=by rw[List.length_append]at hj;have:[L.getD i []].length=1:=rfl;omega
      subst hj2
      rw[K_bf _ _ _ hA.len]at hq
      exact(hoff i hil q hq).2) (by rw[K_11k _ _ hA.len];exact m2.upd d4 fun e=>(hl r e).2 rfl) (by rw[List.length_append];have:[L.getD i []].length=1:=rfl;omega) (fun c hc=>by
     rcases List.mem_append.1 hc with h | h
     ·exact hav c h
     ·rw[List.mem_singleton.1 h];exact hv _ hmem)
   have run2:K_c K (m+1) (.map (some r)) l s ((L.length:Nat):Int) (i:Int) w=K_c K m (.map (some r)) s' s ((L.length:Nat):Int) ((i+1:Nat):Int) w7:=by
    rw[run]
    rw[b1,bnd_ok]
    show (if ((shareC [] nilF).toArray).size=5 then _ else _)=_
    rw[if_pos hz]
    show ((stA ⟨w2.heap.size,0,none⟩ (shareC [] nilF).toArray w3).bind _)=_
    rw[b2,J_bs]
    show bnd (some ((false,()),w4)) _=_
    rw[bnd_ok,if_neg (by decide)]
    show (if (!false)=true then _ else _)=_
    rw[if_pos (by decide),n3,J_bs,n0,J_bs,m1,bnd_ok,o0,J_bs,d1,bnd_ok]
    dsimp only
    rw[d2,bnd_ok]
   refine⟨w',u7.trans' k1 fun k hk e=>e.elim (fun e=>(d5 k e).imp id fun e2=>absurd hk (by omega)) .inr,?_⟩
   rw[hd,K_ht hf,run2];exact k2
end Go.Sh

namespace Go.Sh
open Go.Fw Go.Gf Go.Sha Go.RowKit Go.Proofs.Tryd
theorem K_p2:∀ (r acc l:List (List F)),ownL acc r=some l→(acc.map (bAt · 3)).Nodup→(l.map (bAt · 3)).Nodup∧∃ t,l=acc ++ t∧(∀ c∈t,c∈r)∧t.length≤r.length
 | [],acc,l,h,hn=>by
  obtain rfl:=Option.some.inj h
  exact⟨hn,[],by simp,(fun c h=>by cases h),Nat.le_refl _⟩
 | c :: r,acc,l,h,hn=>by
  cases hf:acc.find? (fun a=>bAt a 3 == bAt c 3) with
  | some a=>
   rw[K_nv hf]at h
   split at h
   ·obtain⟨h1,t,h2,h3,h4⟩:=K_p2 r acc l h hn
    exact⟨h1,t,h2,fun x hx=>List.mem_cons_of_mem _ (h3 x hx),by rw[List.length_cons];omega⟩
   ·cases h
  | none=>
   rw[K_ht hf]at h
   have hc:∀ a∈acc,bAt a 3≠bAt c 3:=fun a ha e=>by
    have:=List.find?_eq_none.1 hf a ha
    simp[e]at this
   obtain⟨h1,t,h2,h3,h4⟩:=K_p2 r (acc ++ [c]) l h (by
    rw[List.map_append]
    refine List.nodup_append.2 ⟨hn,by simp,fun x hx y hy=>?_⟩
    obtain⟨a,ha,rfl⟩:=List.mem_map.1 hx
    have hy:y=bAt c 3:=by simpa using hy
    rw[hy];exact hc a ha)
   refine⟨h1,c :: t,by rw[h2,List.append_assoc];rfl,fun x hx=>?_,by rw[List.length_cons,List.length_cons];omega⟩
   rcases List.mem_cons.1 hx with rfl | hx
   ·exact List.mem_cons_self ..
   ·exact List.mem_cons_of_mem _ (h3 x hx)
structure Joined(C S:List Int) (L:List (List F)):Prop where
 fit:∀ c∈L,fitB c=true
 alike:∀ c∈L,alikeB (L.getD 0 []) c=true
 nodup:(L.map (bAt · 3)).Nodup
 enough:bAt (L.getD 0 []) 2≤L.length
 line:fitL C S L (setN (L.getD 0 [])) (bAt (L.getD 0 []) 2) (bAt (L.getD 0 []) 4)=true
 ne:0<L.length
theorem K_s6{a:List F}{r l:List (List F)}(h:ownL [] (a :: r)=some l):(l.map (bAt · 3)).Nodup∧l.getD 0 []=a∧0<l.length∧(∀ c∈l,c∈a :: r)∧l.length≤r.length+1:=by
 have e:ownL [] (a :: r)=ownL [a] r:=K_ht rfl
 rw[e]at h
 obtain⟨h1,t,h2,h3,h4⟩:=K_p2 r [a] l h (by simp)
 rw[h2]
 refine⟨by rw[←h2];exact h1,rfl,by simp,fun c hc=>?_,by simp;omega⟩
 rcases List.mem_append.1 hc with hc | hc
 ·rw[List.mem_singleton.1 hc];exact List.mem_cons_self ..
 ·exact List.mem_cons_of_mem _ (h3 c hc)
theorem K_uw{C S:List Int}{Ts:List (List Nat)}(h:(mendAll Ts).1≠0):joinR C S Ts=((mendAll Ts).1,[]):=by unfold joinR;rw[if_pos h]
theorem K_up{C S:List Int}{Ts:List (List Nat)}(h:(mendAll Ts).1=0)(h2:(mendAll Ts).2=[]):joinR C S Ts=(114,[]):=by
 unfold joinR;rw[if_neg (fun e=>e h),h2]
theorem K_m1{C S:List Int}{Ts:List (List Nat)}{a:List F}{r:List (List F)}(h:(mendAll Ts).1=0)(h2:(mendAll Ts).2=a :: r):joinR C S Ts=if (a :: r).all (alikeB a)=false then((115:Int),[]) else
  match ownL [] (a :: r) with
  | none=>(116,[])
  | some l=>if l.length<bAt a 2 then(114,[]) else if fitL C S l (setN a) (bAt a 2) (bAt a 4)=false then(117,[]) else(0,l):=by
 unfold joinR;rw[if_neg (fun e=>e h),h2] <;> rfl
theorem K_zf{C S:List Int}{Ts:List (List Nat)}(h:(joinR C S Ts).1=0):Joined C S (joinR C S Ts).2∧(joinR C S Ts).2.length≤Ts.length:=by
 by_cases h1:(mendAll Ts).1=0
 ·cases h2:(mendAll Ts).2 with
  | nil=>rw[K_up h1 h2]at h;cases h
  | cons a r=>
   have hj:=K_m1 (C:=C) (S:=S) h1 h2
   have hfit:=K_iz Ts
   have hlen:=K_io Ts
   rw[h2]at hfit hlen
   rw[hj]at h ⊢
   split at h
   ·cases h
   ·rename_i h3
    rw[if_neg h3]
    cases ho:ownL [] (a :: r) with
    | none=>rw[ho]at h;cases h
    | some l=>
     rw[ho]at h
     dsimp only at h ⊢
     obtain⟨o1,o2,o3,o4,o5⟩:=K_s6 ho
     split at h
     ·cases h
     ·rename_i h5
      rw[if_neg h5]
      split at h
      ·cases h
      ·rename_i h6
       rw[if_neg h6]
       have h6:fitL C S l (setN a) (bAt a 2) (bAt a 4)=true:=by simpa using h6
       have h3:(a :: r).all (alikeB a)=true:=by simpa using h3
       rw[List.length_cons]at hlen
       exact⟨⟨fun c hc=>hfit c (o4 c hc),fun c hc=>by rw[o2];exact List.all_eq_true.1 h3 c (o4 c hc),o1,by show bAt (l.getD 0 []) 2≤l.length;rw[o2];omega,by show fitL C S l (setN (l.getD 0 [])) (bAt (l.getD 0 []) 2) (bAt (l.getD 0 []) 4)=true;rw[o2];exact h6,o3⟩,by show l.length≤_;omega⟩
 ·rw[K_uw h1]at h;exact absurd h h1
theorem K_wi{c:List F}(h:fitB c=true):1≤bAt c 2∧bAt c 2≤16∧1≤bAt c 3∧1≤bAt c 4∧bAt c 4≤64:=by
 rw[K_rg,Bool.and_eq_true]at h
 exact of_decide_eq_true h.1
theorem K_un{a c:List F}(hf:fitB c=true)(ha:alikeB a c=true):(valsP c).length=bAt a 4+4:=by
 rw[K_m0 hf,(of_decide_eq_true ha).2.2]
theorem Joined.vals{C S:List Int}{L:List (List F)}(J:Joined C S L):∀ c∈L,(valsP c).length=bAt (L.getD 0 []) 4+4:=fun c hc=>K_un (J.fit c hc) (J.alike c hc)
theorem Joined.mem0{C S:List Int}{L:List (List F)}(J:Joined C S L):L.getD 0 []∈L:=by rw[J_gd,J_ge J.ne];exact List.getElem_mem J.ne
theorem Joined.need{C S:List Int}{L:List (List F)}(J:Joined C S L):1≤bAt (L.getD 0 []) 2∧bAt (L.getD 0 []) 2≤16∧1≤bAt (L.getD 0 []) 3∧1≤bAt (L.getD 0 []) 4∧bAt (L.getD 0 []) 4≤64:=K_wi (J.fit _ J.mem0)
theorem K_156{K:Nat}(hK:18446744073709551616≤K){w:World}{C S:List Int}(T:Tabs w C S){a:Sl}{ts:List ByteArray}{Ts:List (List Nat)}(hT:TextsL ts Ts)(hl:ts.length≤1000)(hs:Src w a (tx ts))(hlt:∀ q,a.a=some q→ts≠[]→q.block<w.heap.size):
  ∃ s' w',K_8j K a w=some ((s',(joinR C S Ts).1,()),w')∧Upd none_ w w'∧((joinR C S Ts).1=0→∃ svs,ShSrc w'.heap.size w' s' svs (joinR C S Ts).2):=by
 have hal:a.len=ts.length:=by rw[hs.len,K_4t]
 obtain⟨w1,u1,k1⟩:=K_14z hK hT hl hlt ts.length 0 K w ⟨none,0,0⟩ [] [] (by omega) (by omega) (Nat.le_refl _) hs rfl (ShAt.nil _ _)
 have u1:Upd none_ w w1:=u1.mono fun k _ e=>by cases e
 rw[List.drop_zero,List.nil_append]at k1
 unfold K_8j
 rw[hal]
 by_cases h1:(mendAll Ts).1=0
 ·rw[if_pos h1]at k1
  obtain⟨all,svs,r1,hA⟩:=k1
  have r1:K_o K K ⟨none,0,0⟩ a ((ts.length:Nat):Int) 0 w=_:=r1
  have hsz:=hA.size
  have hlen:(mendAll Ts).2.length≤1000:=by have:=K_io Ts;have:=hT.1;omega
  rw[r1,bnd_ok]
  dsimp only
  rw[hsz]
  cases h2:(mendAll Ts).2 with
  | nil=>
   rw[K_up h1 h2]
   refine⟨nilF,w1,?_,u1,(fun e=>by cases e)⟩
   exact if_pos rfl
  | cons x r=>
   have hj:=K_m1 (C:=C) (S:=S) h1 h2
   rw[h2]at hA hlen
   have hfit:=K_iz Ts
   rw[h2]at hfit
   have hR:=hA.read
   rw[if_neg (by rw[beq_iff_eq,List.length_cons];omega)]
   obtain⟨w2,r2,u2⟩:=K_14b (K:=K) hlen (by simp) (x :: r).length 0 K w1 (by omega) (by omega) hR
   have r2:K_1m K K all all (((x :: r).length:Nat):Int) 0 w1=_:=r2
   rw[r2,bnd_ok,List.drop_zero]
   have hx0:(x :: r).getD 0 []=x:=rfl
   rw[hx0]
   have u12:=u1.and0 u2
   by_cases h3:(x :: r).all (alikeB x)=true
   ·rw[if_pos h3]
    rw[if_neg (by rw[h3];decide)]at hj
    dsimp only
    obtain⟨w3,m1,m2,m3,m4⟩:=K_16j prog 133 w2
    rw[m1,bnd_ok]
    have z2:=u2.size
    have z3:=m3.size
    have hvl:∀ c∈x :: r,(valsP c).length≤1000:=fun c hc=>by have:=K_m0 (hfit c hc);have:=K_c9 c 4;omega
    obtain⟨w4,u4,k4⟩:=K_15g hK (B:=w.heap.size) (B1:=w1.heap.size) (r:=w2.heap.size) u1.size z2 (s:=all) (svs:=svs) hlen hvl (fun i hi q hq=>(hA.off i hi q hq).2) (x :: r).length 0 K w3 ⟨none,0,0⟩ [] [] (by omega) (by omega) (by omega) ((hR.upd0 u2).upd0 m3) (ShAt.nil _ _) (fun k hk=>by cases hk) (fun j hj=>absurd hj (Nat.not_lt_zero j)) m2 (Nat.le_refl _) (fun c hc=>by cases hc)
    have u4:Upd none_ w w4:=(u12.and0 m3).trans' u4 fun k hk e=>by
     rcases e with e | e
     ·cases e
     ·have:=u12.size;omega
    rw[List.drop_zero]at k4
    cases ho:ownL [] (x :: r) with
    | none=>
     rw[ho]at k4 hj
     have k4:K_c K K (.map (some w2.heap.size)) ⟨none,0,0⟩ all (((x :: r).length:Nat):Int) 0 w3=_:=k4
     rw[hj]
     refine⟨nilF,w4,?_,u4,(fun e=>by cases e)⟩
     rw[k4,bnd_ok]
    | some l=>
     rw[ho]at k4 hj
     obtain⟨s',sv',k5,hA4⟩:=k4
     have k5:K_c K K (.map (some w2.heap.size)) ⟨none,0,0⟩ all (((x :: r).length:Nat):Int) 0 w3=_:=k5
     rw[k5,bnd_ok]
     dsimp only at hj ⊢
     obtain⟨o1,o2,o3,o4,o5⟩:=K_s6 ho
     rw[List.length_cons]at hlen
     have hR4:=hA4.read
     have hl4:=hA4.size
     obtain⟨p,p1,_,_,p2,_⟩:=hR4.ld (i:=0) o3
     have c0:(0:Int)≤0∧(0:Int)<((s'.len:Nat):Int):=by omega
     rw[p1,J_bs,if_pos c0,p2,J_bs,o2,hl4]
     by_cases h5:l.length<bAt x 2
     ·rw[if_pos h5]at hj
      rw[hj]
      refine⟨nilF,w4,?_,u4,(fun e=>by cases e)⟩
      rw[if_pos (decide_eq_true (by omega))]
     ·rw[if_neg h5]at hj
      rw[if_neg (by simp only[decide_eq_true_eq];omega)]
      have hx:=hfit x (List.mem_cons_self ..)
      have hn:=K_wi hx
      have hlike:∀ c∈l,alikeB x c=true:=fun c hc=>List.all_eq_true.1 h3 c (o4 c hc)
      obtain⟨w5,f1,f2⟩:=K_16d hK (T.upd0 u4) hR4 (Nat.le_refl _) hn.1 (by omega) (by rw[o2]) (by rw[o2]) (by omega) (fun c hc=>K_un (hfit c (o4 c hc)) (hlike c hc))
      rw[o2]at f1
      rw[f1,bnd_ok]
      by_cases h6:fitL C S l (setN x) (bAt x 2) (bAt x 4)=true
      ·rw[if_neg (by rw[h6];decide)]at hj
       rw[hj]
       refine⟨_,w5,?_,u4.and0 f2,fun _=>⟨sv',(hR4.upd0 f2).wide f2.size⟩⟩
       rw[if_pos h6]
      ·rw[if_pos (by simpa using h6)]at hj
       rw[hj]
       refine⟨s',w5,?_,u4.and0 f2,(fun e=>by cases e)⟩
       rw[if_neg h6]
   ·rw[if_neg h3]
    rw[if_pos (by simpa using h3)]at hj
    rw[hj]
    exact⟨nilF,w2,rfl,u12,(fun e=>by cases e)⟩
 ·rw[if_neg h1]at k1
  have k1:K_o K K ⟨none,0,0⟩ a ((ts.length:Nat):Int) 0 w=_:=k1
  rw[K_uw h1]
  refine⟨nilF,w1,?_,u1,fun e=>absurd e h1⟩
  rw[k1,bnd_ok]
end Go.Sh

namespace Go.Sh
open Go.Fw Go.Gf Go.Sha Go.RowKit Go.Proofs.Tryd
def valJ(L:List (List F))(x:F):List F:=betwL L (bAt (L.getD 0 []) 2) (bAt (L.getD 0 []) 4+4) x
def secJ(R:Int×List (List F)):List F:=if R.1=0 then(valJ R.2 0).take (bAt (R.2.getD 0 []) 4) else []
theorem Vw.cut3{e:TypeId}{w:World}{s:Sl}{xs:List Value}(h:OwnS e w s xs){n:Nat}(hn:n≤s.len):Vw e w ⟨sla s.a 0 n 1,n - 0,n - 0⟩ (xs.take n):=by
 rw[sla_zero,Nat.sub_zero]
 have hl:=h.len
 have hc:=h.cap
 refine⟨by rw[List.length_take];show _=n;omega,?_⟩
 rcases h.vw.2 with ⟨h1,h2,h3⟩ | ⟨g,o,cs,h1,h2,h3,h4,h5,h6⟩
 ·exact .inl ⟨h1,by show n=0;omega,by show n=0;omega⟩
 ·refine .inr ⟨g,o,cs,h1,h2,Nat.le_refl _,by show n≤maxLen;omega,by show o+n≤_;omega,?_⟩
  rw[←h6,List.take_take]
  congr 1
  show n=min n s.len
  omega
theorem K_to{K:Nat}(hK:18446744073709551616≤K){w:World}{C S:List Int}{N:Nat}{s:Sl}{svs:List Sl}{L:List (List F)}(J:Joined C S L)(hL:L.length≤1000)(hS:ShSrc N w s svs L)(hN:N≤w.heap.size)(x:F):
  ∃ s' w',K_1f K s (bF x) w=some ((s',()),w')∧OwnS 5 w' s' (fb (valJ L x))∧Upd none_ w w'∧Fresh w.heap.size s'∧s'.len=bAt (L.getD 0 []) 4+4:=
 K_la hK hS hN J.need.1 J.enough rfl hL J.vals (by have:=J.need;omega) x
theorem K_152{K:Nat}(hK:18446744073709551616≤K){w:World}{C S:List Int}(T:Tabs w C S){a:Sl}{ts:List ByteArray}{Ts:List (List Nat)}(hT:TextsL ts Ts)(hl:ts.length≤1000)(hs:Src w a (tx ts))(hlt:∀ q,a.a=some q→ts≠[]→q.block<w.heap.size):
  ∃ s' w',K_4e K a w=some ((s',(joinR C S Ts).1,()),w')∧Upd none_ w w'∧Vw 5 w' s' (fb (secJ (joinR C S Ts)))∧Fresh w.heap.size s':=by
 obtain⟨s1,w1,a1,u1,a2⟩:=K_156 hK T hT hl hs hlt
 unfold K_4e secJ
 rw[a1,bnd_ok]
 dsimp only
 by_cases h:(joinR C S Ts).1=0
 ·rw[if_neg (by rw[h];decide),if_pos h]
  obtain⟨svs,hS⟩:=a2 h
  obtain⟨J,hjl⟩:=K_zf h
  have hjl:=Nat.le_trans hjl (by rw[hT.1];exact hl)
  obtain⟨s2,w2,b1,b2,b3,b4,b5⟩:=K_to hK J hjl hS (Nat.le_refl _) 0
  have b1:K_1f K s1 0 w1=_:=b1
  have ud:Upd none_ w1 w2.drew:=b3.drew
  obtain⟨p,p1,_,_,_,_,pz,_⟩:=(hS.upd0 ud).ld (i:=0) J.ne
  have c0:(0:Int)≤0∧(0:Int)<((s1.len:Nat):Int):=by have:=hS.len;have:=J.ne;omega
  have hcap:=b2.cap
  have c1:(0:Int)≤((bAt ((joinR C S Ts).2.getD 0 []) 4:Nat):Int)∧((bAt ((joinR C S Ts).2.getD 0 []) 4:Nat):Int)≤((s2.cap:Nat):Int):=by omega
  have c2:(0:Int)≤((bAt ((joinR C S Ts).2.getD 0 []) 4:Nat):Int)∧((bAt ((joinR C S Ts).2.getD 0 []) 4:Nat):Int)≤(((bAt ((joinR C S Ts).2.getD 0 []) 4:Nat)):Int):=by omega
  have hv:=Vw.cut3 (h:=b2.drew) (n:=bAt ((joinR C S Ts).2.getD 0 []) 4) (by omega)
  rw[K_g1]at hv
  refine⟨_,w2.drew,?_,u1.and0 ud,hv,fun k hk=>?_⟩
  ·rw[b1,bnd_ok,p1,J_bs,if_pos c0,J_bs,if_pos c0,pz,J_bs,J_bs,if_pos c1,J_tn,if_pos c2,h]
  ·rw[sla_zero]at hk
   have:=b4 k hk
   have:=u1.size
   omega
 ·rw[if_pos (by rw[bne_iff_ne];exact h),if_neg h]
  exact⟨nilF,w1,rfl,u1,Vw.nil _ _,(fun k hk=>by cases hk)⟩
end Go.Sh

namespace Go.Sh
open Go.Fw Go.Gf Go.Sha Go.RowKit Go.Proofs.Tryd
abbrev Pt:=List F×Sl×Nat
def ptC(p:Pt):List Value:=partC (setN p.1) (bAt p.1 2) (bAt p.1 3) (bAt p.1 4) p.2.1 p.2.2
def pt0:Pt:=([],nilF,0)
theorem K_15f(p:Pt):∀ v∈ptC p,v.oneCell'=true:=fun v hv=>K_13w _ _ _ _ _ _ v hv
structure PtAt(B:Nat) (w:World) (s:Sl) (ps:List Pt):Prop where
 str:StrS 105 6 w s (ps.map ptC)
 src:∀ p∈ps,BSrc w p.2.1 (valsP p.1)
 low:∀ k,s.blk=some k→B≤k
 off:∀ p∈ps,∀ q,p.2.1.a=some q→s.blk≠some q.block∧B≤q.block∧q.block<w.heap.size
theorem PtAt.nil(B:Nat)(w:World):PtAt B w ⟨none,0,0⟩ []:=⟨StrS.nil _ _ _,fun p h=>(by cases h),fun k h=>(by cases h),fun p h=>(by cases h)⟩
theorem PtAt.size{B:Nat}{w:World}{s:Sl}{ps:List Pt}(h:PtAt B w s ps):s.len=ps.length:=by rw[h.str.2.1,List.length_map]
theorem PtAt.updS{B:Nat}{w w':World}{s:Sl}{ps:List Pt}{X:Nat→Prop}(h:PtAt B w s ps)(u:Upd X w w')(h1:∀ k,s.blk=some k→¬X k)(h2:∀ p∈ps,∀ q,p.2.1.a=some q→¬X q.block):PtAt B w' s ps:=
 ⟨h.str.upd u fun k hk=>h1 k hk,fun p hp=>Fw.Src.upd (h.src p hp) u fun q hq=>h2 p hp q hq,h.low,fun p hp q hq=>⟨(h.off p hp q hq).1,(h.off p hp q hq).2.1,Nat.lt_of_lt_of_le (h.off p hp q hq).2.2 u.size⟩⟩
theorem PtAt.upd0{B:Nat}{w w':World}{s:Sl}{ps:List Pt}(h:PtAt B w s ps)(u:Upd none_ w w'):PtAt B w' s ps:=h.updS u (fun _ _=>id) fun _ _ _ _=>id
theorem PtAt.push{B:Nat}{w:World}{s:Sl}{ps:List Pt}(h:PtAt B w s ps)(hB:B≤w.heap.size)(hl:ps.length≤1000){p:Pt}(hs:BSrc w p.2.1 (valsP p.1))(hf:∀ q,p.2.1.a=some q→s.blk≠some q.block∧B≤q.block∧q.block<w.heap.size):
  ∃ w1 s' w',bldS prog 129 1 #[(0,.agg (ptC p).toArray)] w=some (⟨some ⟨w.heap.size,0,none⟩,1,1⟩,w1)∧apd prog 129 129 (.slice s.a s.len s.cap) (.slice (some ⟨w.heap.size,0,none⟩) 1 1) w1=some (s',w')∧PtAt B w' s' (ps ++ [p])∧Upd (fun k=>s.blk=some k) w w'∧∀ k,s'.blk=some k→s.blk=some k∨w.heap.size≤k:=by
 have hsz:=h.size
 obtain⟨w1,s',w',a1,a2,a3,a4,a5,a6⟩:=pushN manyPt h.str.1 (cs:=(ptC p).toArray) (by omega) (by omega) rfl (fun v hv=>K_15f p v hv) (by omega)
 have q:=a5.size
 refine⟨w1,s',w',a1,a2,⟨⟨?_,?_,?_⟩,fun x hx=>?_,fun k hk=>(a6 k hk).elim (h.low k) fun e=>by omega,fun x hx q2 hq=>?_⟩,a5,a6⟩
 ·rw[List.map_append,List.flatten_append]
  have e:(([p].map ptC).flatten:List Value)=(ptC p).toArray.toList:=by simp
  rw[e];exact a4
 ·rw[a3,hsz,List.length_map,List.length_append];rfl
 ·intro x hx
  obtain⟨y,_,rfl⟩:=List.mem_map.1 hx
  rfl
 ·rcases List.mem_append.1 hx with hx | hx
  ·exact Fw.Src.upd (h.src x hx) a5 fun q hq=>(h.off x hx q hq).1
  ·rw[List.mem_singleton.1 hx]
   exact Fw.Src.upd hs a5 fun q hq=>(hf q hq).1
 ·have hh:s.blk≠some q2.block∧B≤q2.block∧q2.block<w.heap.size:=by
   rcases List.mem_append.1 hx with hx | hx
   ·exact h.off x hx q2 hq
   ·rw[List.mem_singleton.1 hx]at hq
    exact hf q2 hq
  exact⟨fun e=>(a6 _ e).elim hh.1 fun e2=>by omega,hh.2.1,by omega⟩
theorem K_le{α β:Type}(f:α→β)(l:List α)(d:α)(e:β){i:Nat}(h:i<l.length):(l.map f).getD i e=f (l.getD i d):=by
 rw[J_gd,List.getElem?_map,J_ge h,J_gd,J_ge h];rfl
theorem K_rp{α:Type}{l:List α}(d:α){i:Nat}(h:i<l.length):l.getD i d∈l:=by
 rw[J_gd,J_ge h];exact List.getElem_mem h
theorem PtAt.ld{B:Nat}{w:World}{s:Sl}{ps:List Pt}(h:PtAt B w s ps){i:Nat}(hi:i<ps.length):
  ∃ p,s.a=some p∧ldA 6 (p.add (i*6)) w=some (ptC (ps.getD i pt0)).toArray∧ldA 4 ((p.add (i*6)).add 0) w=some (shL (setN (ps.getD i pt0).1) (bAt (ps.getD i pt0).1 2) (bAt (ps.getD i pt0).1 3) (bAt (ps.getD i pt0).1 4)).toArray∧ldI .i64 (((p.add (i*6)).add 0).add 2) w=some ((bAt (ps.getD i pt0).1 3:Nat):Int)∧ldS ((p.add (i*6)).add 4) w=some (ps.getD i pt0).2.1:=by
 obtain⟨g,cs,a1,a2,a3,a4⟩:=h.str.at (i:=i) (by rw[List.length_map];exact hi)
 rw[K_le ptC ps pt0 [] hi]at a3 a4
 refine⟨⟨g,0,none⟩,a1,by rw[add_lit,Nat.zero_add];exact a3,?_,?_,?_⟩
 ·have h5:=a4 5 (by omega)
  have hlen:i*6+5<cs.length:=(List.getElem?_eq_some_iff.1 (h5.trans rfl)).1
  rw[add_lit,add_lit,Nat.zero_add,Nat.add_zero,a2.ldA (by omega)]
  congr 2
  apply List.ext_getElem?
  intro j
  rw[List.getElem?_take]
  split
  ·rename_i hj
   rw[List.getElem?_drop,a4 j (by omega)]
   rcases(show j=0∨j=1∨j=2∨j=3 by omega) with rfl | rfl | rfl | rfl <;> rfl
  ·rename_i hj
   rw[List.getElem?_eq_none (by show 4≤j;omega)]
 ·simp only[add_lit,Nat.add_zero,Nat.zero_add];exact a2.ldI (a4 2 (by omega))
 ·simp only[add_lit,Nat.add_zero,Nat.zero_add];exact a2.ldS (a4 4 (by omega))
end Go.Sh

namespace Go.Sh
open Go.Fw Go.Gf Go.Sha Go.RowKit Go.Proofs.Tryd
def dupG(c:List F):List (List F)→Bool→Option Bool
 | [],f=>some f
 | a :: r,f=>if bAt a 3=bAt c 3 then(if valsP a=valsP c then dupG c r false else none) else dupG c r f
end Go.Sh

namespace Go.Sh
open Go.Fw Go.Gf Go.Sha Go.RowKit Go.Proofs.Tryd
theorem K_tc{c:List F}:∀ (l:List (List F)) (f:Bool),(∀ a∈l,bAt a 3=bAt c 3→valsP a=valsP c)→dupG c l f=some (if ∃ a∈l,bAt a 3=bAt c 3 then false else f)
 | [],f,h=>by
  rw[if_neg (fun⟨a,h,_⟩=>by cases h)];rfl
 | a :: r,f,h=>by
  have ih:=fun f=>K_tc r f fun x hx=>h x (List.mem_cons_of_mem _ hx)
  show (if bAt a 3=bAt c 3 then(if valsP a=valsP c then dupG c r false else none) else dupG c r f)=_
  by_cases e:bAt a 3=bAt c 3
  ·rw[if_pos e,if_pos (h a (List.mem_cons_self ..) e),ih,if_pos (show ∃ x∈a :: r,bAt x 3=bAt c 3 from ⟨a,List.mem_cons_self ..,e⟩)]
   split <;> rfl
  ·rw[if_neg e,ih]
   by_cases q:∃ a∈r,bAt a 3=bAt c 3
   ·obtain⟨x,h1,h2⟩:=q
    rw[if_pos ⟨x,h1,h2⟩,if_pos ⟨x,List.mem_cons_of_mem _ h1,h2⟩]
   ·rw[if_neg q,if_neg (fun⟨x,h1,h2⟩=>(List.mem_cons.1 h1).elim (fun e2=>e (by rw[←e2];exact h2)) fun h3=>q ⟨x,h3,h2⟩)]
theorem K_rm{c:List F}:∀ (l:List (List F)) (f:Bool),(∃ a∈l,bAt a 3=bAt c 3∧valsP a≠valsP c)→dupG c l f=none
 | [],f,h=>by obtain⟨a,h,_⟩:=h;cases h
 | a :: r,f,h=>by
  show (if bAt a 3=bAt c 3 then(if valsP a=valsP c then dupG c r false else none) else dupG c r f)=_
  obtain⟨x,h1,h2,h3⟩:=h
  by_cases e:bAt a 3=bAt c 3
  ·rw[if_pos e]
   by_cases v:valsP a=valsP c
   ·rw[if_pos v]
    refine K_rm r _ ⟨x,(List.mem_cons.1 h1).elim (fun e2=>absurd v (by rw[←e2];exact h3)) id,h2,h3⟩
   ·rw[if_neg v]
  ·rw[if_neg e]
   exact K_rm r _ ⟨x,(List.mem_cons.1 h1).elim (fun e2=>absurd h2 (by rw[e2];exact e)) id,h2,h3⟩
structure Own(acc pre:List (List F)):Prop where
 all:∀ a∈pre,∃ b∈acc,bAt b 3=bAt a 3∧valsP b=valsP a
 sub:∀ b∈acc,b∈pre
 nodup:(acc.map (bAt · 3)).Nodup
theorem K_vb{acc:List (List F)}(h:(acc.map (bAt · 3)).Nodup){a b:List F}(ha:a∈acc)(hb:b∈acc)(e:bAt a 3=bAt b 3):a=b:=by
 obtain⟨i,hi,rfl⟩:=List.getElem_of_mem ha
 obtain⟨j,hj,rfl⟩:=List.getElem_of_mem hb
 have:i=j:=by
  have h1:(acc.map (bAt · 3))[i]'(by simpa using hi)=(acc.map (bAt · 3))[j]'(by simpa using hj):=by simpa using e
  exact(List.getElem_inj h).1 h1
 subst this;rfl
theorem Own.find{acc pre:List (List F)}(O:Own acc pre)(c:List F):dupG c pre true=match acc.find? (fun a=>bAt a 3 == bAt c 3) with | none=>some true | some b=>if valsP b=valsP c then some false else none:=by
 cases hf:acc.find? (fun a=>bAt a 3 == bAt c 3) with
 | none=>
  have hno:∀ a∈pre,bAt a 3≠bAt c 3:=fun a ha e=>by
   obtain⟨b,hb,h1,_⟩:=O.all a ha
   have:=List.find?_eq_none.1 hf b hb
   simp[h1,e]at this
  rw[K_tc pre true (fun a ha e=>absurd e (hno a ha)),if_neg (fun⟨a,ha,e⟩=>hno a ha e)]
 | some b=>
  have hb:b∈acc:=List.mem_of_find?_eq_some hf
  have hbi:bAt b 3=bAt c 3:=by have:=List.find?_some hf;simpa using this
  have hsame:∀ a∈pre,bAt a 3=bAt c 3→valsP a=valsP b:=fun a ha e=>by
   obtain⟨b',h0,h1,h2⟩:=O.all a ha
   have:b'=b:=K_vb O.nodup h0 hb (by omega)
   rw[←h2,this]
  dsimp only
  by_cases v:valsP b=valsP c
  ·rw[if_pos v,K_tc pre true (fun a ha e=>(hsame a ha e).trans v),if_pos ⟨b,O.sub b hb,hbi⟩]
  ·rw[if_neg v]
   exact K_rm pre true ⟨b,O.sub b hb,hbi,v⟩
theorem Own.skip{acc pre:List (List F)}(O:Own acc pre){c b:List F}(hf:acc.find? (fun a=>bAt a 3 == bAt c 3)=some b)(v:valsP b=valsP c):Own acc (pre ++ [c]):=
 ⟨fun a ha=>(List.mem_append.1 ha).elim (O.all a) fun h=>by
  rw[List.mem_singleton.1 h]
  exact⟨b,List.mem_of_find?_eq_some hf,by have:=List.find?_some hf;simpa using this,v⟩,fun x hx=>List.mem_append_left _ (O.sub x hx),O.nodup⟩
theorem Own.add{acc pre:List (List F)}(O:Own acc pre){c:List F}(hf:acc.find? (fun a=>bAt a 3 == bAt c 3)=none):Own (acc ++ [c]) (pre ++ [c]):=by
 refine⟨fun a ha=>(List.mem_append.1 ha).elim (fun h=>?_) fun h=>?_,fun x hx=>?_,?_⟩
 ·obtain⟨b,h1,h2⟩:=O.all a h
  exact⟨b,List.mem_append_left _ h1,h2⟩
 ·rw[List.mem_singleton.1 h]
  exact⟨c,List.mem_append_right _ (List.mem_singleton.2 rfl),rfl,rfl⟩
 ·rcases List.mem_append.1 hx with h | h
  ·exact List.mem_append_left _ (O.sub x h)
  ·exact List.mem_append_right _ h
 ·rw[List.map_append]
  refine List.nodup_append.2 ⟨O.nodup,by simp,fun x hx y hy=>?_⟩
  obtain⟨a,ha,rfl⟩:=List.mem_map.1 hx
  have hy:y=bAt c 3:=by simpa using hy
  rw[hy]
  intro e
  have:=List.find?_eq_none.1 hf a ha
  simp[e]at this
end Go.Sh

namespace Go.Sh
open Go.Fw Go.Gf Go.Sha Go.RowKit Go.Proofs.Tryd
def PtLt(N:Nat)(s:Sl)(ps:List Pt):Prop:=(∀ k,s.blk=some k→k<N)∧∀ p∈ps,∀ q,p.2.1.a=some q→q.block<N
theorem PtAt.lt{B:Nat}{w:World}{s:Sl}{ps:List Pt}(h:PtAt B w s ps):PtLt w.heap.size s ps:=⟨fun k hk=>h.str.1.lt hk,fun p hp q hq=>(h.off p hp q hq).2.2⟩
theorem PtLt.wide{N M:Nat}{s:Sl}{ps:List Pt}(h:PtLt N s ps)(hM:N≤M):PtLt M s ps:=⟨fun k hk=>Nat.lt_of_lt_of_le (h.1 k hk) hM,fun p hp q hq=>Nat.lt_of_lt_of_le (h.2 p hp q hq) hM⟩
theorem K_fz{l:List F}{v:Nat}(h:v<l.length):l[v]=l.getD v 0:=by rw[J_gd,J_ge h];rfl
structure OutAt(B:Nat) (w:World) (s:Sl) (ss:List Sl) (R:List (List F)):Prop where
 own:OwnS 23 w s (ss.map slF)
 len:ss.length=R.length
 row:∀ i,i<R.length→BSrc w (ss.getD i nilF) (R.getD i [])
 low:∀ k,s.blk=some k→B≤k
 off:∀ i,i<R.length→∀ q,(ss.getD i nilF).a=some q→s.blk≠some q.block∧B≤q.block∧q.block<w.heap.size
theorem OutAt.nil(B:Nat)(w:World):OutAt B w nilF [] []:=⟨OwnS.nil _ _,rfl,fun i hi=>absurd hi (Nat.not_lt_zero i),(fun k hk=>by cases hk),fun i hi=>absurd hi (Nat.not_lt_zero i)⟩
theorem OutAt.size{B:Nat}{w:World}{s:Sl}{ss:List Sl}{R:List (List F)}(h:OutAt B w s ss R):s.len=R.length:=by rw[h.own.len,List.length_map,h.len]
theorem OutAt.updS{B:Nat}{w w':World}{s:Sl}{ss:List Sl}{R:List (List F)}{X:Nat→Prop}(h:OutAt B w s ss R)(u:Upd X w w')(h1:∀ k,s.blk=some k→¬X k)(h2:∀ i,i<R.length→∀ q,(ss.getD i nilF).a=some q→¬X q.block):OutAt B w' s ss R:=
 ⟨h.own.upd u h1,h.len,fun i hi=>Fw.Src.upd (h.row i hi) u (h2 i hi),h.low,fun i hi q hq=>⟨(h.off i hi q hq).1,(h.off i hi q hq).2.1,Nat.lt_of_lt_of_le (h.off i hi q hq).2.2 u.size⟩⟩
theorem OutAt.upd0{B:Nat}{w w':World}{s:Sl}{ss:List Sl}{R:List (List F)}(h:OutAt B w s ss R)(u:Upd none_ w w'):OutAt B w' s ss R:=h.updS u (fun _ _=>id) fun _ _ _ _=>id
theorem OutAt.push{B:Nat}{w:World}{s:Sl}{ss:List Sl}{R:List (List F)}(h:OutAt B w s ss R)(hB:B≤w.heap.size)(hR:R.length≤4096){x:Sl}{r:List F}(hx:BSrc w x r)(hf:∀ q,x.a=some q→s.blk≠some q.block∧B≤q.block∧q.block<w.heap.size):
  ∃ w1 s' w',bldS prog 67 1 #[(0,slF x)] w=some (⟨some ⟨w.heap.size,0,none⟩,1,1⟩,w1)∧apd prog 67 67 (.slice s.a s.len s.cap) (.slice (some ⟨w.heap.size,0,none⟩) 1 1) w1=some (s',w')∧OutAt B w' s' (ss ++ [x]) (R ++ [r])∧Upd (fun k=>s.blk=some k) w w'∧∀ k,s'.blk=some k→s.blk=some k∨w.heap.size≤k:=by
 obtain⟨w1,a1,a2,a3,a4⟩:=K_57 sliceR (slF x) rfl w
 have hrl:=h.size
 obtain⟨s',w',b1,b2,b3,b4,b5⟩:=K_34 sliceR (h.own.upd0 a3) (a2.src (fun v hv=>by simp only[List.mem_singleton]at hv;rw[hv];rfl)) (by show (s.len+1)*24≤_;omega)
 have q1:=a3.size
 have q2:=b4.size
 have u:Upd (fun k=>s.blk=some k) w w':=(a3.mono (T:=fun k=>s.blk=some k) fun _ _ e=>e.elim).trans' b4 fun _ _ e=>e
 have hs':∀ k,s'.blk=some k→s.blk=some k∨w.heap.size≤k:=fun k hk=>by
  rcases b5 with e | e
  ·rw[e]at hk;exact .inl hk
  ·rw[e]at hk;have e2:w1.heap.size=k:=Option.some.inj hk;exact .inr (by omega)
 have hbm:(ss.map slF ++ [slF x])=(ss ++ [x]).map slF:=by simp
 have b3:OwnS 23 w' s' ((ss ++ [x]).map slF):=by rw[←hbm];exact b3
 have hi2:∀ i,i<(R ++ [r]).length→¬i<R.length→i=R.length:=fun i hi e=>by rw[List.length_append]at hi;have:[r].length=1:=rfl;omega
 refine⟨w1,s',w',a1,b1,⟨b3,by rw[List.length_append,List.length_append,h.len];rfl,fun i hi=>?_,fun k hk=>(hs' k hk).elim (h.low k) fun e=>by omega,fun i hi q hq=>?_⟩,u,hs'⟩
 ·by_cases e:i<R.length
  ·rw[K_7f _ _ _ _ (by rw[h.len];exact e),K_7f _ _ _ _ e]
   exact Fw.Src.upd (h.row i e) u fun q hq=>(h.off i e q hq).1
  ·rw[hi2 i hi e,K_bf _ _ _ h.len,K_bf _ _ _ rfl]
   exact Fw.Src.upd hx u fun q hq=>(hf q hq).1
 ·have hh:s.blk≠some q.block∧B≤q.block∧q.block<w.heap.size:=by
   by_cases e:i<R.length
   ·rw[K_7f _ _ _ _ (by rw[h.len];exact e)]at hq
    exact h.off i e q hq
   ·rw[hi2 i hi e,K_bf _ _ _ h.len]at hq
    exact hf q hq
  exact⟨fun e=>(hs' _ e).elim hh.1 fun e2=>by omega,hh.2.1,by omega⟩
end Go.Sh

namespace Go.Sh
open Go.Fw Go.Gf Go.Sha Go.RowKit Go.Proofs.Tryd
theorem K_173{a b:Nat}(ha:a<256)(hb:b<256)(h:b8 a=b8 b):a=b:=by
 have:(b8 a).n=(b8 b).n:=by rw[h]
 have h1:a % 256=b % 256:=this
 omega
theorem K_120{L:List (List F)}(h:(L.map (bAt · 3)).Nodup):(L.map idxF).Nodup:=by
 have e:L.map idxF=(L.map (bAt · 3)).map b8:=by rw[List.map_map];rfl
 rw[e]
 unfold List.Nodup at h ⊢
 rw[List.pairwise_map]at h ⊢
 rw[List.pairwise_map]
 exact h.imp fun {a b} hab hb=>hab (K_173 (K_c9 _ _) (K_c9 _ _) hb)
theorem K_13d(L:List (List F))(v:Nat):(ptsL L v).map (·.1)=L.map idxF:=by unfold ptsL;rw[List.map_map];rfl
theorem K_13n(L:List (List F))(v:Nat):(ptsL L v).length=L.length:=by unfold ptsL;rw[List.length_map]
theorem K_14e{l:List F}(h:0<l.length):ev l 0=l.getD 0 0:=by
 cases l with
 | nil=>simp at h
 | cons c r=>rw[K_4a,F.zero_mul,F.add_zero];rfl
end Go.Sh

namespace Go.Sh
open Go.Fw Go.Gf Go.Sha Go.RowKit Go.Proofs.Tryd
end Go.Sh

namespace Go.Sh
open Go.Fw Go.Gf Go.Sha Go.RowKit Go.Proofs.Tryd
structure RowsJ(N:Nat) (w:World) (s:Sl) (ss:List Sl) (R:List (List F)):Prop where
 own:Fw.Src w s (ss.map slF)
 len:ss.length=R.length
 row:∀ i,i<R.length→BSrc w (ss.getD i nilF) (R.getD i [])
 lt:(∀ q,s.a=some q→q.block<N)∧∀ i,i<R.length→∀ q,(ss.getD i nilF).a=some q→q.block<N
theorem RowsJ.upd{N:Nat}{w w':World}{s:Sl}{ss:List Sl}{R:List (List F)}{X:Nat→Prop}(h:RowsJ N w s ss R)(u:Upd X w w')(hn:∀ k,k<N→¬X k):RowsJ N w' s ss R:=
 ⟨h.own.upd u fun q hq=>hn _ (h.lt.1 q hq),h.len,fun i hi=>Fw.Src.upd (h.row i hi) u fun q hq=>hn _ (h.lt.2 i hi q hq),h.lt⟩
theorem RowsJ.upd0{N:Nat}{w w':World}{s:Sl}{ss:List Sl}{R:List (List F)}(h:RowsJ N w s ss R)(u:Upd none_ w w'):RowsJ N w' s ss R:=h.upd u fun _ _=>id
theorem RowsJ.size{N:Nat}{w:World}{s:Sl}{ss:List Sl}{R:List (List F)}(h:RowsJ N w s ss R):s.len=R.length:=by rw[h.own.len,List.length_map,h.len]
theorem RowsJ.ld{N:Nat}{w:World}{s:Sl}{ss:List Sl}{R:List (List F)}(h:RowsJ N w s ss R){i:Nat}(hi:i<R.length):∃ p,s.a=some p∧ldS (p.add i) w=some (ss.getD i nilF):=by
 have hl:=h.len
 rcases h.own.rd with ⟨_,_,e⟩ | ⟨p,e1,e2⟩
 ·have:=congrArg List.length e
  rw[List.length_map]at this
  simp at this;rw[this]at hl;simp at hl;omega
 ·refine⟨p,e1,?_⟩
  have hv:(ss.map slF)[i]? =some (slF (ss.getD i nilF)):=by
   rw[List.getElem?_map,J_ge (by omega),J_gd,J_ge (by omega)];rfl
  have:=e2 i _ hv
  unfold ldS
  rw[this];rfl
theorem OutAt.rows{B:Nat}{w:World}{s:Sl}{ss:List Sl}{R:List (List F)}(h:OutAt B w s ss R):RowsJ w.heap.size w s ss R:=
 ⟨h.own.src (K_u9 ss),h.len,h.row,fun q hq=>h.own.lt (k:=q.block) (by simp[Sl.blk,hq]),fun i hi q hq=>(h.off i hi q hq).2.2⟩
end Go.Sh

namespace Go.Sh
open Go.Fw Go.Gf Go.Sha Go.RowKit Go.Proofs.Tryd Go.Deep Go.ChangeShapes Go.WideShapes
def dlL(set:Int)(s:Sl)(need count:Int)(own:Bool)(r:Sl):List Value:=[.int .u16 set,slV s,.int .i64 need,.int .i64 count,.bool own,slV r]
def dlC(set:Int)(s:Sl)(need count:Int)(own:Bool)(r:Sl):Array Value:=(dlL set s need count own r).toArray
theorem c_int:prog.cellsOf 3=1:=by kernel_rfl
theorem c_u16:prog.cellsOf 22=1:=by kernel_rfl
theorem K_160:prog.cellsOf 4=1:=by kernel_rfl
theorem c_TB:prog.cellsOf 23=1:=by kernel_rfl
theorem K_16z{n:Int}(h:(Lit.int .u16 n).wf=true):∃ k:Nat,n=(k:Int)∧k<65536:=by
 have h2:0≤n∧n≤65535:=by simpa[Lit.wf,IntKind.bits,IntKind.min,IntKind.max,IntKind.signed] using h
 exact⟨n.toNat,by omega,by omega⟩
set_option maxRecDepth 100000 in
theorem K_ut{H:Type}{enc:TypeId×Value→H}{W:World}{d:DataW H}{p:List MemPlace}{v:Value}{base:Nat}(hv:Value.okWide prog W .any base 25 v)(h:DataW.Trod enc prog W 0 (fun _=>true) true 25 v d p)(hw:∀ n∈d.weights prog 25,n≤reachBytes):
  ∃ (set:Nat) (s:Sl) (need count:Int) (own:Bool) (r:Sl) (ss rs:List Int),v= .agg (dlC (set:Int) s need count own r)∧set<65536∧BytesIn W s ss∧BytesIn W r rs:=by
 have hu:=underlying25
 have hs0:=okWide_struct (P:=prog) (t:=25) hu hv
 obtain⟨cs,hcv,hcs⟩:=hs0
 subst hcv
 obtain⟨fuel,hf⟩:=h
 obtain⟨xs,m,_,hx,hcl,hxl,hfs⟩:=DataW.trod_struct hu hf
 have hsz:prog.cellsOf 25=6:=by kernel_rfl
 rw[hsz]at hcs
 have hcc:(Value.agg cs).cells.toList=cs.toList:=rfl
 simp only[hcc]at hfs
 have hl6:cs.toList.length=6:=by simpa using hcs
 obtain⟨c0,c1,c2,c3,c4,c5,hc⟩:∃ a b c d e f,cs.toList=[a,b,c,d,e,f]:=by
  match hm:cs.toList,hl6 with
  | [a,b,c,d,e,f],_=>exact⟨a,b,c,d,e,f,rfl⟩
 have hx6:xs.length=6:=hxl
 obtain⟨y0,y1,y2,y3,y4,y5,hy⟩:∃ a b c d e f,xs=[a,b,c,d,e,f]:=by
  match hm:xs,hx6 with
  | [a,b,c,d,e,f],_=>exact⟨a,b,c,d,e,f,rfl⟩
 subst hy
 rw[hc]at hfs
 have f0:=hfs 0 _ rfl
 have f1:=hfs 1 _ rfl
 have f2:=hfs 2 _ rfl
 have f3:=hfs 3 _ rfl
 have f4:=hfs 4 _ rfl
 have f5:=hfs 5 _ rfl
 simp only[c_int,c_u16,K_160,c_TB,List.drop_zero,List.drop_succ_cons,List.take_succ_cons,List.take_zero,List.getElem?_cons_zero,List.getElem?_cons_succ]at f0 f1 f2 f3 f4 f5
 have hd:d= .agg [y0.1,y1.1,y2.1,y3.1,y4.1,y5.1]:=(Prod.mk.inj hx).1
 have hwt:∀ n∈y0.1.weights prog 22 ++ (y1.1.weights prog 23 ++ (y2.1.weights prog 3 ++ (y3.1.weights prog 3 ++ (y4.1.weights prog 4 ++ (y5.1.weights prog 23 ++ []))))),n≤reachBytes:=by
  intro n hn
  refine hw n ?_
  rw[hd]
  simp only[DataW.weights,hu,List.map_cons,List.map_nil,DataW.weightsEach]
  exact hn
 obtain⟨n0,e0,_,w0⟩:=DataW.trod_int underlying22 f0
 obtain⟨s1,p1,e1,g1⟩:=K_nu f1 (fun n hn=>hwt n (by simp[hn]))
 obtain⟨n2,e2,_,w2⟩:=DataW.trod_int underlying3 f2
 obtain⟨n3,e3,_,w3⟩:=DataW.trod_int underlying3 f3
 obtain⟨b4,e4,_⟩:=DataW.trod_bool underlying4 f4
 obtain⟨s5,p5,e5,g5⟩:=K_nu f5 (fun n hn=>hwt n (by simp[hn]))
 obtain⟨k,rfl,hk⟩:=K_16z w0
 have hcs2:cs=dlC (k:Int) s1 n2 n3 b4 s5:=by
  apply Array.ext'
  rw[hc,(List.cons.inj e0).1,(List.cons.inj e1).1,(List.cons.inj e2).1,(List.cons.inj e3).1,(List.cons.inj e4).1,(List.cons.inj e5).1]
  rfl
 subst hcs2
 exact⟨k,s1,n2,n3,b4,s5,p1,p5,rfl,hk,g1,g5⟩
theorem K_37{set need count:Int}{own:Bool}{s r:Sl}{w:World}{c:Nat}(b:Bk 25 w c (dlL set s need count own r)):
  ldI .u16 ((⟨c,0,none⟩:Addr).add 0) w=some set∧ldS ((⟨c,0,none⟩:Addr).add 1) w=some s∧ldI .i64 ((⟨c,0,none⟩:Addr).add 2) w=some need∧ldI .i64 ((⟨c,0,none⟩:Addr).add 3) w=some count∧ldB ((⟨c,0,none⟩:Addr).add 4) w=some own∧ldS ((⟨c,0,none⟩:Addr).add 5) w=some r:=by
 rw[add_lit,add_lit,add_lit,add_lit,add_lit,add_lit]
 exact⟨b.ldI rfl,b.ldS rfl,b.ldI rfl,b.ldI rfl,b.ldB rfl,b.ldS rfl⟩
theorem K_oy{w:World}{s:Sl}{l:List F}(hs:BSrc w s l)(n:Nat):∃ s',K_1b s (n:Int)=some (s',())∧BSrc w s' (l.take n)∧(l.take n).length≤n:=by
 have hsl:s.len=l.length:=by rw[hs.len,K_0]
 have hc:=hs.cap
 unfold K_1b
 by_cases h:n<l.length
 ·rw[if_pos (decide_eq_true (show ((s.len:Nat):Int) > (n:Int) by omega)),if_pos (by omega)]
  refine⟨_,rfl,?_,by rw[List.length_take];omega⟩
  have:=hs.cut (n:=n) (by omega)
  rw[K_g1]at this
  rw[sla_zero,J_tn,Nat.sub_zero,Nat.sub_zero];exact this
 ·rw[if_neg (by simp only[decide_eq_true_eq];omega),List.take_of_length_le (by omega)]
  exact⟨s,rfl,hs,by omega⟩
theorem K_155(z:Int):IntKind.u8.wrap z=bF (toF (IntKind.u8.wrap z)):=by
 rw[K_w3]
 rw[IntKind.wrap_u8]
 exact⟨by omega,by show z % 256<2 ^ 8;omega⟩
theorem K_13e(need:Int)(n:Nat):∃ k:Nat,rndN need n=(k:Int)∧k≤1020:=by
 unfold rndN
 by_cases h:need<1∨16<need∨n<1∨64<n
 ·rw[if_pos h];exact⟨0,rfl,by omega⟩
 ·rw[if_neg h]
  obtain⟨a,rfl⟩:∃ a:Nat,need=((a+1:Nat):Int):=⟨(need - 1).toNat,by omega⟩
  have e1:(((a+1:Nat):Int) - 1)=(a:Int):=by omega
  have e2:((n:Int)+4)=((n+4:Nat):Int):=rfl
  have:a*(n+4)≤15*68:=Nat.mul_le_mul (by omega) (by omega)
  exact⟨a*(n+4),by rw[e1,e2,←Int.natCast_mul],by omega⟩
end Go.Sh

namespace Go.Sh
open Go.Fw Go.Gf Go.Sha Go.RowKit Go.Proofs.Tryd
end Go.Sh

namespace Go.Sh
open Go.Fw Go.Gf Go.Sha Go.RowKit Go.Proofs.Tryd Go.ChangeShapes Go.WideShapes
structure TextsIn(W:World) (s:Sl) (ts:List ByteArray):Prop where
 src:Fw.Src W s (tx ts)
 lt:∀ q,s.a=some q→ts≠[]→q.block<W.heap.size
def natsOf(t:ByteArray):List Nat:=t.data.toList.map UInt8.toNat
theorem K_134(ts:List ByteArray):TextsL ts (ts.map natsOf):=by
 refine⟨List.length_map ..,fun j hj=>?_⟩
 rw[K_le natsOf ts str0 [] hj]
 refine⟨K_yh _,fun c hc=>?_⟩
 obtain⟨u,_,rfl⟩:=List.mem_map.1 hc
 exact u.toNat_lt
end Go.Sh

namespace Go.Sh
open Go.Fw Go.Gf Go.Sha Go.RowKit Go.Proofs.Tryd
def fiveN(v:Nat):List Nat:=[setC.getD (v / 4096) 0,setV.getD (v / 1024 % 4) 0,setC.getD (v / 64 % 16) 0,setV.getD (v / 16 % 4) 0,setC.getD (v % 16) 0]
theorem K_rh{k:Nat}(h:k<16):letC k=((setC.getD k 0:Nat):Int):=by
 obtain⟨b,h1,h2⟩:=isC.2 k h
 unfold letC
 rw[h1,←h2];rfl
theorem K_wc{k:Nat}(h:k<4):letV k=((setV.getD k 0:Nat):Int):=by
 obtain⟨b,h1,h2⟩:=isV.2 k h
 unfold letV
 rw[h1,←h2];rfl
theorem K_12t{v:Nat}(h:v<65536):five v=(fiveN v).map Int.ofNat:=by
 unfold five fiveN
 rw[K_rh (by omega),K_wc (by omega),K_rh (by omega),K_wc (by omega),K_rh (by omega)];rfl
def wdsN:List Nat→List Nat
 | a :: b :: c :: r=>fiveN (a*256+b) ++ 32 :: wdsN (c :: r)
 | [a,b]=>fiveN (a*256+b)
 | _=>[]
theorem K_v2(bs:List Nat)(hb:∀ x∈bs,x<256):∀ (d i m:Nat) (acc:List Int),i+2*m=bs.length→m<d→wordsL bs d i acc=acc ++ ((if 0<i∧0<m then [32] else []) ++ wdsN (bs.drop i)).map Int.ofNat
 | 0,_,_,_,_,h=>by omega
 | d+1,i,0,acc,hi,_=>by
  show (if i+1<bs.length then _ else acc)=_
  rw[if_neg (by omega),List.drop_eq_nil_of_le (by omega),if_neg (by omega)]
  show acc=acc ++ []
  rw[List.append_nil]
 | d+1,i,m+1,acc,hi,hm=>by
  show (if i+1<bs.length then wordsL bs d (i+2) (acc ++ (if 0<i then [32] else []) ++ five (bs.getD i 0*256+bs.getD (i+1) 0)) else acc)=_
  have h1:bs.getD i 0<256:=hb _ (K_rp 0 (by omega))
  have h2:bs.getD (i+1) 0<256:=hb _ (K_rp 0 (by omega))
  rw[if_pos (by omega),K_v2 bs hb d (i+2) m _ (by omega) (by omega),K_do 0 (show i<bs.length by omega),K_do 0 (show i+1<bs.length by omega),K_12t (by omega)]
  have hs:(if 0<i then [(32:Int)] else [])=(if 0<i∧0<m+1 then [(32:Nat)] else []).map Int.ofNat:=by
   by_cases c:0<i
   ·rw[if_pos c,if_pos ⟨c,by omega⟩];rfl
   ·rw[if_neg c,if_neg (fun h=>c h.1)];rfl
  rw[hs]
  have hw:wdsN (bs.getD i 0 :: bs.getD (i+1) 0 :: bs.drop (i+1+1))=fiveN (bs.getD i 0*256+bs.getD (i+1) 0) ++ ((if 0<i+2∧0<m then [32] else []) ++ wdsN (bs.drop (i+2))):=by
   cases m with
   | zero=>
    rw[List.drop_eq_nil_of_le (by omega),if_neg (by omega)]
    show fiveN _=fiveN _ ++ []
    rw[List.append_nil]
   | succ m=>
    rw[if_pos (by omega),K_do 0 (show i+2<bs.length by omega)];rfl
  rw[hw]
  simp only[List.map_append,List.append_assoc]
theorem K_w5(xs:List Nat)(h:∀ x∈xs,x<256):natsOf (bytesOf (xs.map Int.ofNat))=xs:=by
 unfold natsOf bytesOf
 rw[List.map_map,List.map_map]
 conv=>rhs;rw[←List.map_id xs]
 refine List.map_congr_left fun a ha=>?_
 show (UInt8.ofNat (Int.toNat (a:Int))).toNat=a
 rw[J_tn,UInt8.toNat_ofNat']
 exact Nat.mod_eq_of_lt (h a ha)
theorem K_g0:∀ k,k<16→setC.getD k 0<256∧gapB (setC.getD k 0)=false∧lowN (setC.getD k 0)=setC.getD k 0∧plG setC (setC.getD k 0) 0=some k:=by decide+kernel
theorem K_p5:∀ k,k<4→setV.getD k 0<256∧gapB (setV.getD k 0)=false∧lowN (setV.getD k 0)=setV.getD k 0∧plG setV (setV.getD k 0) 0=some k:=by decide+kernel
theorem K_i2{v:Nat}(hv:v<65536):∀ x∈fiveN v,x<256∧gapB x=false∧lowN x=x:=fun x hx=>by
 unfold fiveN at hx
 simp only[List.mem_cons,List.not_mem_nil,or_false]at hx
 rcases hx with rfl | rfl | rfl | rfl | rfl
 ·obtain⟨a,b,c,_⟩:=K_g0 (v / 4096) (by omega);exact⟨a,b,c⟩
 ·obtain⟨a,b,c,_⟩:=K_p5 (v / 1024 % 4) (by omega);exact⟨a,b,c⟩
 ·obtain⟨a,b,c,_⟩:=K_g0 (v / 64 % 16) (by omega);exact⟨a,b,c⟩
 ·obtain⟨a,b,c,_⟩:=K_p5 (v / 16 % 4) (by omega);exact⟨a,b,c⟩
 ·obtain⟨a,b,c,_⟩:=K_g0 (v % 16) (by omega);exact⟨a,b,c⟩
theorem K_5t(v:Nat):(fiveN v).length=5:=rfl
theorem K_zv{v:Nat}(hv:v<65536):wvG (fiveN v) 0 0=some v:=by
 have h0:=(K_g0 (v / 4096) (by omega)).2.2.2
 have h1:=(K_p5 (v / 1024 % 4) (by omega)).2.2.2
 have h2:=(K_g0 (v / 64 % 16) (by omega)).2.2.2
 have h3:=(K_p5 (v / 16 % 4) (by omega)).2.2.2
 have h4:=(K_g0 (v % 16) (by omega)).2.2.2
 have s0:setOf 0=setC:=rfl
 have s1:setOf (0+1)=setV:=rfl
 have s2:setOf (0+1+1)=setC:=rfl
 have s3:setOf (0+1+1+1)=setV:=rfl
 have s4:setOf (0+1+1+1+1)=setC:=rfl
 have m0:mulOf 0=16:=rfl
 have m1:mulOf (0+1)=4:=rfl
 have m2:mulOf (0+1+1)=16:=rfl
 have m3:mulOf (0+1+1+1)=4:=rfl
 have m4:mulOf (0+1+1+1+1)=16:=rfl
 unfold fiveN
 simp only[wvG,s0,s1,s2,s3,s4,m0,m1,m2,m3,m4,h0,h1,h2,h3,h4,J_bs]
 congr 1
 omega
theorem K_yp:∀ (bs:List Nat),(∀ x∈bs,x<256)→∀ x∈wdsN bs,x<256
 | a :: b :: c :: r,h,x,hx=>by
  have ha:=h a (List.mem_cons_self ..)
  have hb:=h b (List.mem_cons_of_mem _ (List.mem_cons_self ..))
  rcases List.mem_append.1 hx with hx | hx
  ·exact(K_i2 (by omega) x hx).1
  ·rcases List.mem_cons.1 hx with rfl | hx
   ·omega
   ·exact K_yp (c :: r) (fun y hy=>h y (List.mem_cons_of_mem _ (List.mem_cons_of_mem _ hy))) x hx
 | [a,b],h,x,hx=>by
  have ha:=h a (List.mem_cons_self ..)
  have hb:=h b (List.mem_cons_of_mem _ (List.mem_cons_self ..))
  exact(K_i2 (by omega) x hx).1
 | [a],h,x,hx=>by cases hx
 | [],h,x,hx=>by cases hx
def lets(l:List F):List Nat:=wdsN (l.map F.n)
theorem F_lt(l:List F):∀ x∈l.map F.n,x<256:=fun x hx=>by obtain⟨a,_,rfl⟩:=List.mem_map.1 hx;exact a.lt
theorem K_110{l:List F}{m:Nat}(h:l.length=2*m):textOf l=bytesOf ((lets l).map Int.ofNat):=by
 unfold textOf lets
 rw[K_v2 (l.map F.n) (F_lt l) (l.length+1) 0 m [] (by rw[List.length_map];omega) (by omega),if_neg (by omega)];rfl
theorem K_qb{l:List F}{m:Nat}(h:l.length=2*m):natsOf (textOf l)=lets l:=by
 rw[K_110 h];exact K_w5 _ (K_yp _ (F_lt l))
theorem K_il:∀ (ws:List Nat) (wd cs:List Nat) (O:List F),(∀ x∈ws,gapB x=false∧lowN x=x)→rdP (ws ++ cs) wd O=rdP cs (wd ++ ws) O
 | [],wd,cs,O,_=>by rw[List.nil_append,List.append_nil]
 | x :: ws,wd,cs,O,h=>by
  obtain⟨h1,h2⟩:=h x (List.mem_cons_self ..)
  show (if gapB x=true then(endW wd O).bind fun O'=>rdP (ws ++ cs) [] O' else rdP (ws ++ cs) (wd ++ [lowN x]) O)=_
  rw[h1,if_neg (by decide),h2,K_il ws (wd ++ [x]) cs O (fun y hy=>h y (List.mem_cons_of_mem _ hy)),List.append_assoc];rfl
theorem K_uk{a b:F}:worthB (fiveN (a.n*256+b.n))=[a,b]:=by
 have ha:=a.lt
 have hb:=b.lt
 have h:worthN (fiveN (a.n*256+b.n))=a.n*256+b.n:=by unfold worthN;rw[K_zv (by omega)];rfl
 unfold worthB
 congr 1
 ·apply F.ext'
  show worthN (fiveN (a.n*256+b.n)) / 256 % 256=a.n
  rw[h];omega
 ·congr 1
  apply F.ext'
  show worthN (fiveN (a.n*256+b.n)) % 256=b.n
  rw[h];omega
theorem K_xf:∀ (l:List F) (m:Nat) (O:List F),l.length=2*m→rdP (lets l) [] O=some (O ++ l)
 | [],0,O,_=>by show endW [] O=_;unfold endW;rw[if_pos rfl,List.append_nil]
 | [],m+1,O,h=>by simp at h
 | [a],m,O,h=>by simp at h;omega
 | a :: b :: [],m,O,h=>by
  have ha:=a.lt
  have hb:=b.lt
  have hf:=K_i2 (v:=a.n*256+b.n) (by omega)
  show rdP (fiveN (a.n*256+b.n)) [] O=_
  have:=K_il (fiveN (a.n*256+b.n)) [] [] O fun x hx=>(hf x hx).2
  rw[List.append_nil,List.nil_append]at this
  rw[this]
  show endW (fiveN (a.n*256+b.n)) O=_
  unfold endW
  rw[if_neg (by unfold fiveN;simp),if_neg (by rw[K_5t];simp),K_uk]
 | a :: b :: c :: r,m,O,h=>by
  have ha:=a.lt
  have hb:=b.lt
  have hf:=K_i2 (v:=a.n*256+b.n) (by omega)
  show rdP (fiveN (a.n*256+b.n) ++ 32 :: lets (c :: r)) [] O=_
  rw[K_il _ _ _ _ fun x hx=>(hf x hx).2,List.nil_append]
  show (if gapB 32=true then(endW (fiveN (a.n*256+b.n)) O).bind fun O'=>rdP (lets (c :: r)) [] O' else _)=_
  rw[if_pos (by decide)]
  have he:endW (fiveN (a.n*256+b.n)) O=some (O ++ [a,b]):=by
   unfold endW
   rw[if_neg (by unfold fiveN;simp),if_neg (by rw[K_5t];simp),K_uk]
  rw[he,J_bs,K_xf (c :: r) (m - 1) (O ++ [a,b]) (by simp at h ⊢;omega),List.append_assoc];rfl
theorem K_m9:∀ (l:List F) (m:Nat),l.length=2*m→0<m→(lets l).length+1=6*m
 | [],m,h,h0=>by simp at h;omega
 | [a],m,h,_=>by simp at h;omega
 | a :: b :: [],m,h,_=>by
  have:m=1:=by simp at h;omega
  subst this;rfl
 | a :: b :: c :: r,m,h,_=>by
  have ih:=K_m9 (c :: r) (m - 1) (by simp at h ⊢;omega) (by simp at h;omega)
  show (fiveN (a.n*256+b.n) ++ 32 :: lets (c :: r)).length+1=_
  rw[List.length_append,K_5t,List.length_cons]
  simp at h;omega
theorem K_124{b c:List F}{m:Nat}(hb:b.length=2*m)(h1:14≤b.length)(h2:b.length≤78)(hn:Near b c)(hf:fitB c=true):mendR (natsOf (textOf b))=(0,some (c,far b c)):=by
 have hl:=K_m9 b m hb (by omega)
 unfold mendR
 rw[K_qb hb,if_neg (by omega),K_xf b m [] hb]
 show (if b.length<14∨78<b.length then _ else match Gf.repP b with | none=>_ | some r=>if fitB r.1=true then((0:Int),some r) else(113,none))=_
 rw[if_neg (by omega),(K_os (by omega)).1 c hn]
 show (if fitB c=true then((0:Int),some (c,far b c)) else(113,none))=_
 rw[if_pos hf]
end Go.Sh

namespace Go.Sh
open Go.Fw Go.Gf Go.Sha Go.RowKit Go.Proofs.Tryd
structure OkL(set need idx size:Nat) (vals:List F):Prop where
 hs:set<65536
 hn:1≤need∧need≤16
 hi:1≤idx∧idx≤255
 hz:1≤size∧size≤64
 hv:vals.length=size+4
def bodL(set need idx size:Nat)(vals:List F):List F:=padL (bytes5 set need idx size ++ vals)
theorem K_u2{set need idx size:Nat}{vals:List F}(h:vals.length=size+4):(bodL set need idx size vals).length=5+(size+4)+(5+(size+4)) % 2:=by
 unfold bodL padL
 have h1:(bytes5 set need idx size ++ vals).length=5+(size+4):=by rw[List.length_append,h];rfl
 rw[h1]
 split
 ·rename_i c;rw[List.length_append,h1,c];rfl
 ·rename_i c;rw[h1];omega
theorem K_rw(set need idx size:Nat)(vals:List F):lineL set need idx size vals=bodL set need idx size vals ++ remP (bodL set need idx size vals):=rfl
theorem K_i3{set need idx size:Nat}{vals:List F}(h:vals.length=size+4):(lineL set need idx size vals).length=5+(size+4)+(5+(size+4)) % 2+4:=by
 rw[K_rw,List.length_append,K_ib,K_u2 h]
theorem K_b4{set need idx size:Nat}{vals:List F}(h:vals.length=size+4){i:Nat}(hi:i<5+(size+4)):(lineL set need idx size vals).getD i 0=(bytes5 set need idx size ++ vals).getD i 0:=by
 have h1:(bytes5 set need idx size ++ vals).length=5+(size+4):=by rw[List.length_append,h];rfl
 rw[K_rw,K_7f _ _ _ _ (by rw[K_u2 h];omega)]
 unfold bodL padL
 split
 ·rw[K_7f _ _ _ _ (by omega)]
 ·rfl
theorem K_4c{set need idx size:Nat}{vals:List F}(K:OkL set need idx size vals):setN (lineL set need idx size vals)=set∧bAt (lineL set need idx size vals) 2=need∧bAt (lineL set need idx size vals) 3=idx∧bAt (lineL set need idx size vals) 4=size:=by
 have h:=K.hv
 have:=K.hs
 have:=K.hn
 have:=K.hi
 have:=K.hz
 refine⟨?_,?_,?_,?_⟩
 ·unfold setN bAt
  rw[K_b4 h (by omega),K_b4 h (by omega)]
  show (set / 256 % 256)*256+set % 256=set
  omega
 ·unfold bAt;rw[K_b4 h (by omega)];show need % 256=need;omega
 ·unfold bAt;rw[K_b4 h (by omega)];show idx % 256=idx;omega
 ·unfold bAt;rw[K_b4 h (by omega)];show size % 256=size;omega
theorem K_s8{set need idx size:Nat}{vals:List F}(K:OkL set need idx size vals):valsP (lineL set need idx size vals)=vals:=by
 have h:=K.hv
 unfold valsP
 rw[(K_4c K).2.2.2]
 apply List.ext_getElem
 ·rw[List.length_take,List.length_drop,K_i3 h,h];omega
 ·intro i h1 h2
  rw[List.getElem_take,List.getElem_drop]
  have e:=K_b4 (set:=set) (need:=need) (idx:=idx) h (i:=5+i) (by omega)
  rw[←K_fz (by rw[K_i3 h];omega)]at e
  rw[e,J_gd,List.getElem?_append_right (by show 5≤_;omega)]
  have:5+i - (bytes5 set need idx size).length=i:=by show 5+i - 5=i;omega
  rw[this,J_ge h2];rfl
theorem K_11d{set need idx size:Nat}{vals:List F}(K:OkL set need idx size vals):fitB (lineL set need idx size vals)=true:=by
 have h:=K.hv
 obtain⟨h0,h2,h3,h4⟩:=K_4c K
 rw[K_w2,h2,h3,h4]
 refine⟨K.hn.1,K.hn.2,K.hi.1,K.hz.1,K.hz.2,K_i3 h,fun hp=>?_⟩
 unfold bAt
 rw[K_rw,K_7f _ _ _ _ (by rw[K_u2 h];omega)]
 unfold bodL padL
 have h1:(bytes5 set need idx size ++ vals).length=5+(size+4):=by rw[List.length_append,h];rfl
 rw[h1,if_pos hp,K_bf _ _ _ h1];rfl
theorem K_qd(set need idx size:Nat)(vals:List F):Right (lineL set need idx size vals):=K_vz _
theorem K_t5{set need idx size:Nat}{vals:List F}(K:OkL set need idx size vals):∃ m,(lineL set need idx size vals).length=2*m∧7≤m∧m≤39:=by
 have:=K_i3 (set:=set) (need:=need) (idx:=idx) K.hv
 have:=K.hz
 exact⟨(lineL set need idx size vals).length / 2,by omega,by omega,by omega⟩
theorem K_10t{l:List F}(hr:Right l):Near l l:=⟨rfl,hr,by rw[K_b2];omega⟩
end Go.Sh

namespace Go.Sh
open Go.Fw Go.Gf Go.Sha Go.RowKit Go.Proofs.Tryd
def vOf2(l:List F)(j:Nat):Nat:=(l.getD (2*j) 0).n*256+(l.getD (2*j+1) 0).n
theorem K_14n(l:List F)(j:Nat):vOf2 l j<65536:=by have:=(l.getD (2*j) 0).lt;have:=(l.getD (2*j+1) 0).lt;unfold vOf2;omega
theorem K_yf:∀ (l:List F) (m:Nat),l.length=2*m→∀ j k,j<m→k<5→(lets l).getD (6*j+k) 0=(fiveN (vOf2 l j)).getD k 0
 | [],m,h,j,k,hj,_=>by simp at h;omega
 | [a],m,h,j,k,hj,_=>by simp at h;omega
 | a :: b :: [],m,h,j,k,hj,_=>by
  have:j=0:=by simp at h;omega
  subst this
  rw[Nat.mul_zero,Nat.zero_add];rfl
 | a :: b :: c :: r,m,h,0,k,hj,hk=>by
  show (fiveN (a.n*256+b.n) ++ 32 :: lets (c :: r)).getD (6*0+k) 0=_
  rw[Nat.mul_zero,Nat.zero_add,K_7f _ _ _ _ (by rw[K_5t];omega)];rfl
 | a :: b :: c :: r,m,h,j+1,k,hj,hk=>by
  have ih:=K_yf (c :: r) (m - 1) (by simp at h ⊢;omega) j k (by omega) hk
  show (fiveN (a.n*256+b.n) ++ 32 :: lets (c :: r)).getD (6*(j+1)+k) 0=_
  rw[J_gd,List.getElem?_append_right (by rw[K_5t];omega),K_5t,show 6*(j+1)+k - 5=(6*j+k)+1 by omega,List.getElem?_cons_succ,←J_gd,ih];rfl
theorem K_yz:∀ (l:List F) (m:Nat),l.length=2*m→∀ j,j+1<m→(lets l).getD (6*j+5) 0=32
 | [],m,h,j,hj=>by simp at h;omega
 | [a],m,h,j,hj=>by simp at h;omega
 | a :: b :: [],m,h,j,hj=>by simp at h;omega
 | a :: b :: c :: r,m,h,0,hj=>by
  show (fiveN (a.n*256+b.n) ++ 32 :: lets (c :: r)).getD (6*0+5) 0=_
  rw[J_gd,List.getElem?_append_right (by rw[K_5t];omega),K_5t];rfl
 | a :: b :: c :: r,m,h,j+1,hj=>by
  have ih:=K_yz (c :: r) (m - 1) (by simp at h ⊢;omega) j (by omega)
  show (fiveN (a.n*256+b.n) ++ 32 :: lets (c :: r)).getD (6*(j+1)+5) 0=_
  rw[J_gd,List.getElem?_append_right (by rw[K_5t];omega),K_5t,show 6*(j+1)+5 - 5=(6*j+5)+1 by omega,List.getElem?_cons_succ,←J_gd,ih]
def txtOf(k:Nat):ByteArray:=if k % 2=1 then str2 else str1
theorem K_16n(k:Nat):IsText (txtOf k) (setOf k):=by unfold txtOf setOf;split;exact isV;exact isC
def digN(v k:Nat):Nat:=[v / 4096,v / 1024 % 4,v / 64 % 16,v / 16 % 4,v % 16].getD k 0
def valN(v k:Nat):Nat:=[0,v / 4096,v / 1024,v / 64,v / 16,v].getD k 0
theorem K_16q{v k:Nat}(hv:v<65536)(hk:k<5):digN v k<mulOf k:=by
 match k,hk with
 | 0,_=>show v / 4096<16;omega
 | 1,_=>show v / 1024 % 4<4;omega
 | 2,_=>show v / 64 % 16<16;omega
 | 3,_=>show v / 16 % 4<4;omega
 | 4,_=>show v % 16<16;omega
theorem K_12j{v k:Nat}(hk:k<5):valN v (k+1)=valN v k*mulOf k+digN v k:=by
 match k,hk with
 | 0,_=>show v / 4096=0*16+v / 4096;omega
 | 1,_=>show v / 1024=v / 4096*4+v / 1024 % 4;omega
 | 2,_=>show v / 64=v / 1024*16+v / 64 % 16;omega
 | 3,_=>show v / 16=v / 64*4+v / 16 % 4;omega
 | 4,_=>show v=v / 16*16+v % 16;omega
theorem K_11o{v k:Nat}(hv:v<65536)(hk:k≤5):valN v k<65536:=by
 match k,hk with
 | 0,_=>show 0<65536;omega
 | 1,_=>show v / 4096<65536;omega
 | 2,_=>show v / 1024<65536;omega
 | 3,_=>show v / 64<65536;omega
 | 4,_=>show v / 16<65536;omega
 | 5,_=>show v<65536;omega
theorem K_13x{v k:Nat}(hk:k<5):(fiveN v).getD k 0=(setOf k).getD (digN v k) 0:=by
 match k,hk with
 | 0,_=>rfl
 | 1,_=>rfl
 | 2,_=>rfl
 | 3,_=>rfl
 | 4,_=>rfl
theorem K_14d:∀ k,k<5→∀ a,a<mulOf k→∀ b,b<mulOf k→(setOf k).getD a 0=(setOf k).getD b 0→a=b:=by decide+kernel
theorem K_141{K:Nat}{t con vow:ByteArray}{T:List Nat}(hT:IsText t T){out:Sl}{i k:Nat}{vv:Int}(hk:k<5)(hi:i+k<T.length)(hTl:T.length≤1000000){j0:Nat}(hj0:j0<mulOf k)(hc:T.getD (i+k) 0=(setOf k).getD j0 0):
  ∀ (d j m:Nat) (w:World),j+d=mulOf k→d<m→∃ w',K_31 K m t con vow out (i:Int) vv (k:Int) (txtOf k) ((mulOf k:Nat):Int) (if j0<j then(j0:Int) else -1) (j:Int) w=some (((j0:Int),()),w')∧Upd none_ w w':=by
 have hmul:mulOf k≤16:=by unfold mulOf;split <;> omega
 intro d
 induction d with
 | zero=>
  intro j m w hj hm
  obtain⟨m,rfl⟩:∃ q,m=q+1:=⟨m - 1,by omega⟩
  refine⟨w,?_,Upd.refl _ _⟩
  show K_63 K (K_31 K m) t con vow out (i:Int) vv (k:Int) (txtOf k) ((mulOf k:Nat):Int) (if j0<j then(j0:Int) else -1) (j:Int) w=_
  unfold K_63
  rw[if_neg (by simp only[decide_eq_true_eq];omega),if_pos (by omega)]
 | succ d ih=>
  intro j m w hj hm
  obtain⟨m,rfl⟩:∃ q,m=q+1:=⟨m - 1,by omega⟩
  have e3:IntKind.i64.wrap ((j:Int)+1)=((j+1:Nat):Int):=by rw[w64 (by omega) (by omega)];rfl
  have e4:IntKind.i64.wrap ((i:Int)+(k:Int))=((i+k:Nat):Int):=by rw[w64 (by omega) (by omega)];rfl
  have hjl:j<(setOf k).length:=by rw[K_ti];omega
  obtain⟨b1,p1,p2⟩:=(K_16n k).2 j hjl
  obtain⟨b2,q1,q2⟩:=hT.2 (i+k) hi
  have c1:(0:Int)≤(j:Int):=Int.natCast_nonneg _
  have c2:(0:Int)≤((i+k:Nat):Int):=Int.natCast_nonneg _
  obtain⟨w',k1,k2⟩:=ih (j+1) m w.drew (by omega) (by omega)
  refine⟨w',?_,k2.predrew⟩
  show K_63 K (K_31 K m) t con vow out (i:Int) vv (k:Int) (txtOf k) ((mulOf k:Nat):Int) (if j0<j then(j0:Int) else -1) (j:Int) w=_
  unfold K_63
  rw[if_pos (decide_eq_true (by omega)),if_pos c1,J_tn,p1,J_bs,e4,if_pos c2,J_tn,q1,J_bs,p2,q2,hc,e3]
  by_cases e:(setOf k).getD j 0=(setOf k).getD j0 0
  ·have:=K_14d k hk j (by omega) j0 hj0 e
   subst this
   rw[if_pos (by rw[beq_iff_eq])]
   rw[if_pos (by omega)]at k1
   exact k1
  ·have hne:j≠j0:=fun e2=>e (by rw[e2])
   rw[if_neg (by rw[beq_iff_eq];omega)]
   have hif:(if j0<j+1 then(j0:Int) else -1)=(if j0<j then(j0:Int) else -1):=by
    by_cases c:j0<j
    ·rw[if_pos c,if_pos (by omega)]
    ·rw[if_neg c,if_neg (by omega)]
   rw[hif]at k1
   exact k1
theorem K_12w{K:Nat}(hK:18446744073709551616≤K){t:ByteArray}{T:List Nat}(hT:IsText t T){out:Sl}{i v:Nat}(hv:v<65536)(hi:i+5≤T.length)(hTl:T.length≤1000000)(hc:∀ k,k<5→T.getD (i+k) 0=(fiveN v).getD k 0):
  ∀ (d k m:Nat) (w:World),k+d=5→d<m→∃ w',K_3g K m t str1 str2 out (i:Int) ((valN v k:Nat):Int) (k:Int) w=some (.norm ((v:Int),()),w')∧Upd none_ w w':=by
 intro d
 induction d with
 | zero=>
  intro k m w hk hm
  obtain⟨m,rfl⟩:∃ q,m=q+1:=⟨m - 1,by omega⟩
  have:k=5:=by omega
  subst this
  refine⟨w,?_,Upd.refl _ _⟩
  show K_6m K (K_3g K m) t str1 str2 out (i:Int) ((v:Nat):Int) ((5:Nat):Int) w=_
  unfold K_6m
  rw[if_neg (by decide)]
 | succ d ih=>
  intro k m w hk hm
  obtain⟨m,rfl⟩:∃ q,m=q+1:=⟨m - 1,by omega⟩
  have hmul:mulOf k≤16:=by unfold mulOf;split <;> omega
  have hd:=K_16q hv (k:=k) (by omega)
  have hvl:=K_11o hv (k:=k) (by omega)
  have hvl2:=K_11o hv (k:=k+1) (by omega)
  have hst:=K_12j (v:=v) (k:=k) (by omega)
  have hmv:valN v k*mulOf k≤65536*16:=Nat.mul_le_mul (by omega) hmul
  have e3:IntKind.i64.wrap ((k:Int)+1)=((k+1:Nat):Int):=by rw[w64 (by omega) (by omega)];rfl
  have e4:IntKind.i64.wrap ((IntKind.i64.wrap (((valN v k:Nat):Int)*((mulOf k:Nat):Int)))+((digN v k:Nat):Int))=((valN v (k+1):Nat):Int):=by
   obtain⟨x,hx⟩:∃ x,x=valN v k*mulOf k:=⟨_,rfl⟩
   rw[←Int.natCast_mul,hst,←hx]
   rw[←hx]at hmv
   have e0:IntKind.i64.wrap (x:Int)=(x:Int):=w64 (by omega) (by omega)
   rw[e0,w64 (by omega) (by omega)];rfl
  have hs3:K_7r K str2 str1 16 ((Int.tmod (k:Int) 2) == 1) w=some ((txtOf k,((mulOf k:Nat):Int),()),w):=by
   have hm2:Int.tmod (k:Int) 2=((k % 2:Nat):Int):=rfl
   unfold K_7r txtOf mulOf
   rw[hm2]
   by_cases c:k % 2=1
   ·rw[if_pos (by rw[c];rfl),if_pos c,if_pos c];rfl
   ·rw[if_neg (by rw[beq_iff_eq];omega),if_neg c,if_neg c];rfl
  obtain⟨w1,a1,a2⟩:=K_141 (K:=K) (con:=str1) (vow:=str2) (out:=out) (vv:=((valN v k:Nat):Int)) hT (i:=i) (k:=k) (by omega) (by omega) hTl hd (by rw[hc k (by omega),K_13x (by omega)]) (mulOf k) 0 K w (by omega) (by omega)
  rw[if_neg (by omega)]at a1
  have a1:K_31 K K t str1 str2 out (i:Int) ((valN v k:Nat):Int) (k:Int) (txtOf k) ((mulOf k:Nat):Int) (-1) 0 w=_:=a1
  obtain⟨w',k1,k2⟩:=ih (k+1) m w1 (by omega) (by omega)
  refine⟨w',?_,a2.and0 k2⟩
  show K_6m K (K_3g K m) t str1 str2 out (i:Int) ((valN v k:Nat):Int) (k:Int) w=_
  unfold K_6m
  rw[if_pos (decide_eq_true (by omega)),hs3,bnd_ok]
  dsimp only
  rw[a1,bnd_ok]
  dsimp only
  rw[if_neg (by simp only[decide_eq_true_eq];omega),e4,e3,k1]
theorem K_13c{K:Nat}(hK:18446744073709551616≤K){t:ByteArray}{l:List F}{mm:Nat}(hl:l.length=2*mm)(h0:0<mm)(hmm:mm≤1000)(hT:IsText t (lets l)):
  ∀ (d j m:Nat) (w:World) (out:Sl),j+d=mm→d<m→OwnS 5 w out (fb (l.take (2*j)))→
   ∃ s' w',K_3f K m t str1 str2 out ((6*j:Nat):Int) w=some (.norm (s',()),w')∧OwnS 5 w' s' (fb l)∧Upd (fun k=>out.blk=some k) w w'∧∀ k,s'.blk=some k→out.blk=some k∨w.heap.size≤k:=by
 have hTl:=K_m9 l mm hl h0
 have hsz:=hT.1
 intro d
 induction d with
 | zero=>
  intro j m w out hj hm ho
  obtain⟨m,rfl⟩:∃ q,m=q+1:=⟨m - 1,by omega⟩
  rw[List.take_of_length_le (by omega)]at ho
  refine⟨out,w,?_,ho,Upd.refl _ _,fun k hk=>.inl hk⟩
  show K_6i K (K_3f K m) t str1 str2 out ((6*j:Nat):Int) w=_
  unfold K_6i
  rw[if_neg (by simp only[decide_eq_true_eq];omega)]
 | succ d ih=>
  intro j m w out hj hm ho
  obtain⟨m,rfl⟩:∃ q,m=q+1:=⟨m - 1,by omega⟩
  have hjm:j<mm:=by omega
  have e6:IntKind.i64.wrap (((6*j:Nat):Int)+6)=((6*(j+1):Nat):Int):=by rw[w64 (by omega) (by omega)];omega
  have e5:IntKind.i64.wrap (((6*j:Nat):Int)+5)=((6*j+5:Nat):Int):=by rw[w64 (by omega) (by omega)];rfl
  have hs1:K_7b K t ((6*j:Nat):Int) w=some ((false,()),w):=by
   unfold K_7b
   rw[e5,if_neg (by simp only[decide_eq_true_eq];omega)]
   by_cases c:j=0
   ·rw[if_neg (by simp only[decide_eq_true_eq];omega)]
   ·have e1:IntKind.i64.wrap (((6*j:Nat):Int) - 1)=((6*(j - 1)+5:Nat):Int):=by rw[w64 (by omega) (by omega)];omega
    obtain⟨b,b1,b2⟩:=hT.2 (6*(j - 1)+5) (by omega)
    rw[K_yz l mm hl (j - 1) (by omega)]at b2
    rw[if_pos (decide_eq_true (by omega)),e1,if_pos (Int.natCast_nonneg _),J_tn,b1,J_bs,b2];rfl
  have hv:=K_14n l j
  obtain⟨w1,a1,a2⟩:=K_12w hK hT (out:=out) (i:=6*j) hv (by omega) (by omega) (fun k hk=>K_yf l mm hl j k hjm hk) 5 0 K w (by omega) (by omega)
  have a1:K_3g K K t str1 str2 out ((6*j:Nat):Int) 0 0 w=_:=a1
  have ha:=(l.getD (2*j) 0).lt
  have hb:=(l.getD (2*j+1) 0).lt
  have x1:IntKind.u8.wrap (IntKind.i64.wrap (Int.tdiv ((vOf2 l j:Nat):Int) 256))=bF (l.getD (2*j) 0):=by
   have:Int.tdiv ((vOf2 l j:Nat):Int) 256=((vOf2 l j / 256:Nat):Int):=rfl
   rw[this,w64 (by omega) (by omega),K_9c]
   unfold bF b8 vOf2
   congr 1
   show (_*256+_) / 256 % 256=_
   omega
  have x2:IntKind.u8.wrap (Int.tmod ((vOf2 l j:Nat):Int) 256)=bF (l.getD (2*j+1) 0):=by
   have:Int.tmod ((vOf2 l j:Nat):Int) 256=((vOf2 l j % 256:Nat):Int):=rfl
   rw[this,K_9c]
   unfold bF b8 vOf2
   congr 1
   show (_*256+_) % 256 % 256=_
   omega
  obtain⟨w2,c1,c2,c3,c4⟩:=K_4b sliceB (fb [l.getD (2*j) 0,l.getD (2*j+1) 0]) (fun v hv=>by obtain⟨x,_,rfl⟩:=List.mem_map.1 hv;rfl) (by rw[K_0];simp) (by rw[K_0];simp) w1
  have c1:bldS prog 23 2 #[(0,(.int .u8 (bF (l.getD (2*j) 0)))),(1,(.int .u8 (bF (l.getD (2*j+1) 0))))] w1=some (⟨some ⟨w1.heap.size,0,none⟩,2,2⟩,w2):=c1
  have c2:OwnS 5 w2 ⟨some ⟨w1.heap.size,0,none⟩,2,2⟩ (fb [l.getD (2*j) 0,l.getD (2*j+1) 0]):=c2
  have u2:=a2.and0 c3
  have hol:=ho.len
  rw[K_0,List.length_take]at hol
  obtain⟨s3,w3,d1,d2,d3,d4,d5⟩:=K_34 sliceB (ho.upd0 u2) (c2.src (K_14 _)) (by show (out.len+2)*1≤_;omega)
  rw[←K_5v]at d3
  have hta:l.take (2*j) ++ [l.getD (2*j) 0,l.getD (2*j+1) 0]=l.take (2*(j+1)):=by
   have h1:l.take (2*j+1)=l.take (2*j) ++ [l.getD (2*j) 0]:=by rw[List.take_succ_eq_append_getElem (by omega),K_fz (by omega)]
   have h2:l.take (2*(j+1))=l.take (2*j+1) ++ [l.getD (2*j+1) 0]:=by rw[show 2*(j+1)=(2*j+1)+1 by omega,List.take_succ_eq_append_getElem (by omega),K_fz (by omega)]
   rw[h2,h1,List.append_assoc];rfl
  rw[hta]at d3
  have z2:=u2.size
  have z1:=a2.size
  have zc:=c3.size
  have u3:Upd (fun k=>out.blk=some k) w w3:=(u2.mono (T:=fun k=>out.blk=some k) fun _ _ e=>e.elim).trans' d4 fun _ _ e=>e
  have h5:∀ k,s3.blk=some k→out.blk=some k∨w.heap.size≤k:=fun k hk=>by
   rcases d5 with e | e
   ·rw[e]at hk;exact .inl hk
   ·rw[e]at hk;have e2:w2.heap.size=k:=Option.some.inj hk;exact .inr (by omega)
  have z3:=u3.size
  obtain⟨s',w',k1,k2,k3,k4⟩:=ih (j+1) m w3 s3 (by omega) (by omega) d3
  refine⟨s',w',?_,k2,u3.trans' k3 fun k hk e=>(h5 k e).elim id fun e2=>absurd hk (by omega),fun k hk=>(k4 k hk).elim (h5 k) fun e=>.inr (by omega)⟩
  show K_6i K (K_3f K m) t str1 str2 out ((6*j:Nat):Int) w=_
  unfold K_6i
  rw[if_pos (decide_eq_true (by omega)),hs1,bnd_ok]
  dsimp only
  rw[if_neg (by decide),a1,bnd_ok]
  dsimp only
  rw[x1,x2,c1,bnd_ok]
  dsimp only
  rw[d1,bnd_ok,e6,k1]
theorem K_11s{K:Nat}(hK:18446744073709551616≤K)(w:World){l:List F}{m:Nat}(hl:l.length=2*m)(h0:0<m)(hm:m≤1000):
  ∃ s' w',K_5s K (textOf l) w=some ((s',true,()),w')∧OwnS 5 w' s' (fb l)∧Upd none_ w w'∧Fresh w.heap.size s':=by
 have hT:IsText (textOf l) (lets l):=by
  have:=K_yh (textOf l)
  have e:(textOf l).data.toList.map UInt8.toNat=lets l:=K_qb hl
  rw[e]at this;exact this
 have hTl:=K_m9 l m hl h0
 have hsz:=hT.1
 obtain⟨s',w',k1,k2,k3,k4⟩:=K_13c hK hl h0 hm hT m 0 K w nilF (by omega) (by omega) (by rw[Nat.mul_zero];exact OwnS.nil _ _)
 have k1:K_3f K K (textOf l) str1 str2 ⟨none,0,0⟩ 0 w=_:=k1
 refine⟨s',w',?_,k2,k3.mono (fun k _ e=>by cases e),fun k hk=>(k4 k hk).elim (fun e=>by cases e) id⟩
 unfold K_5s
 rw[k1,bnd_ok]
 have e:Int.tmod ((((textOf l).size:Nat)):Int) 6=(((textOf l).size % 6:Nat):Int):=rfl
 have e2:(textOf l).size % 6=5:=by omega
 dsimp only
 rw[e,e2];rfl
end Go.Sh

namespace Go.Sh
open Go.Fw Go.Gf Go.Sha Go.RowKit Go.Proofs.Tryd
def idxU(i:Int)(n:Nat):Nat:=(IntKind.u64.wrap i).toNat % n
theorem K_14j(i:Int):∃ u:Nat,IntKind.u64.wrap i=(u:Int)∧(IntKind.u64.wrap i).toNat=u:=by
 have h:0≤IntKind.u64.wrap i:=by rw[IntKind.wrap_u64];omega
 exact⟨(IntKind.u64.wrap i).toNat,by omega,rfl⟩
theorem K_ub{n:Nat}(hn:n≤1000000):IntKind.u64.wrap (n:Int)=(n:Int):=by rw[IntKind.wrap_u64];omega
theorem K_k0(i:Int){n:Nat}(h:0<n):idxU i n<n:=Nat.mod_lt _ h
theorem K_10s(i:Int){n:Nat}(h0:0<n)(hn:n≤1000000):IntKind.i64.wrap (Int.tmod (IntKind.u64.wrap i) (IntKind.u64.wrap (n:Int)))=((idxU i n:Nat):Int):=by
 obtain⟨u,h1,h2⟩:=K_14j i
 have h3:=K_k0 i h0
 rw[K_ub hn,h1]
 have:Int.tmod (u:Int) (n:Int)=((u % n:Nat):Int):=rfl
 rw[this]
 unfold idxU at h3 ⊢
 rw[h2]at h3 ⊢
 rw[w64 (by omega) (by omega)]
def rndF(L:List F)(i:Nat):F:=toF (IntKind.u8.wrap (if L.length=0 then IntKind.i64.wrap ((IntKind.i64.wrap ((i:Int)*(i:Int)))+7) else bF (L.getD (i % L.length) 0)+IntKind.u8.wrap (IntKind.i64.wrap (Int.tdiv (i:Int) ((L.length:Nat):Int)))))
def rndLs(L:List F)(n:Nat):List F:=(List.range n).map (rndF L)
theorem K_v3(L:List F)(n:Nat):(rndLs L n).length=n:=by simp[rndLs]
theorem K_101(L:List F)(n:Nat):rndLs L (n+1)=rndLs L n ++ [rndF L n]:=by simp[rndLs,List.range_succ]
theorem K_11y{K:Nat}{g n:Nat}(hn:n≤2000){set need count:Int}{own:Bool}{s r:Sl}{L:List F}:
  ∀ (d i m:Nat) (w:World) (b:Sl),i+d=n→d<m→Bk 25 w g (dlL set s need count own r)→BSrc w r L→OwnS 5 w b (fb (rndLs L i))→(∀ k,b.blk=some k→g<k)→(∀ q,r.a=some q→L≠[]→∀ k,b.blk=some k→q.block≠k)→
   ∃ b' w',K_s K m ⟨g,0,none⟩ (n:Int) b (i:Int) w=some ((b',()),w')∧OwnS 5 w' b' (fb (rndLs L n))∧Upd (fun k=>b.blk=some k) w w':=by
 intro d
 induction d with
 | zero=>
  intro i m w b hi hm hb hr ho hg hq
  obtain⟨m,rfl⟩:∃ q,m=q+1:=⟨m - 1,by omega⟩
  obtain rfl:i=n:=by omega
  refine⟨b,w,?_,ho,Upd.refl _ _⟩
  show K_2p K (K_s K m) ⟨g,0,none⟩ (i:Int) b (i:Int) w=_
  unfold K_2p
  rw[if_neg (by simp)]
 | succ d ih=>
  intro i m w b hi hm hb hr ho hg hq
  obtain⟨m,rfl⟩:∃ q,m=q+1:=⟨m - 1,by omega⟩
  have e3:IntKind.i64.wrap ((i:Int)+1)=((i+1:Nat):Int):=by rw[w64 (by omega) (by omega)];rfl
  have hrl:r.len=L.length:=by rw[hr.len,K_0]
  have ud:=(Upd.refl none_ w).drew
  have hlt:=K_bu hr
  have hgl:=hb.lt
  have step:∀ (v:World) (z:Int),Upd none_ w v→v.heap.size=w.heap.size→toF (IntKind.u8.wrap z)=rndF L i→∃ (s3:Sl) (w3:World) (w4:World),bldS prog 23 1 #[(0,(.int .u8 (IntKind.u8.wrap z)))] v=some (⟨some ⟨v.heap.size,0,none⟩,1,1⟩,w3)∧apd prog 23 23 (.slice b.a b.len b.cap) (.slice (some ⟨v.heap.size,0,none⟩) 1 1) w3=some (s3,w4)∧∃ b' w',K_s K m ⟨g,0,none⟩ (n:Int) s3 ((i+1:Nat):Int) w4=some ((b',()),w')∧OwnS 5 w' b' (fb (rndLs L n))∧Upd (fun k=>b.blk=some k) w w':=by
   intro v z hv hvs hz
   rw[K_155 z]
   obtain⟨w3,s3,w4,a1,a2,a3,a4,a5⟩:=K_p7 (ho.upd0 hv) (by rw[K_v3];omega) (toF (IntKind.u8.wrap z))
   rw[hz,←K_101]at a3
   have u:Upd (fun k=>b.blk=some k) w w4:=(hv.mono (T:=fun k=>b.blk=some k) fun _ _ e=>e.elim).trans' a4 fun _ _ e=>e
   obtain⟨b',w',k1,k3,k4⟩:=ih (i+1) m w4 s3 (by omega) (by omega) (hb.upd u fun e=>by have:=hg _ e;omega) (K_3r hr u fun q hq2 hne e=>hq q hq2 hne _ e rfl) a3 (fun k hk=>(a5 k hk).elim (hg k) fun e=>by omega) (fun q hq2 hne k hk e=>(a5 k hk).elim (fun e2=>hq q hq2 hne k e2 e) fun e2=>by have:=hlt q hq2 hne;omega)
   exact⟨s3,w3,w4,a1,a2,b',w',k1,k3,u.trans' k4 fun k hk e=>(a5 k e).elim id fun e2=>absurd hk (by omega)⟩
  show ∃ b' w',K_2p K (K_s K m) ⟨g,0,none⟩ (n:Int) b (i:Int) w=_∧_
  unfold K_2p
  rw[if_pos (decide_eq_true (show (i:Int)<(n:Int) by omega)),(K_37 hb).2.2.2.2.2,J_bs]
  by_cases h0:L.length=0
  ·rw[if_pos (by rw[hrl,h0];rfl)]
   obtain⟨s3,w3,w4,a1,a2,b',w',k1,k3,k4⟩:=step w (IntKind.i64.wrap ((IntKind.i64.wrap ((i:Int)*(i:Int)))+7)) (Upd.refl _ _) rfl (by unfold rndF;rw[if_pos h0])
   rw[a1,bnd_ok]
   dsimp only
   rw[a2,bnd_ok,e3]
   exact⟨b',w',k1,k3,k4⟩
  ·have hbd:=hb.upd0 ud
   rw[if_neg (by rw[hrl];simpa using h0),(K_37 hbd).2.2.2.2.2,J_bs,J_bs]
   have et:Int.tmod (i:Int) ((r.len:Nat):Int)=((i % L.length:Nat):Int):=by rw[hrl];rfl
   have hil:i % L.length<L.length:=Nat.mod_lt _ (by omega)
   obtain⟨p,p1,p2⟩:=K_2b (hr.upd0 ud) hil
   rw[K_fz hil]at p2
   rw[if_pos (by rw[hrl];omega),p1,J_bs,et,if_pos (by rw[hrl];exact⟨Int.natCast_nonneg _,Int.ofNat_lt.2 hil⟩),J_tn,Nat.mul_one,p2,J_bs,J_bs,if_pos (by rw[hrl];omega)]
   obtain⟨s3,w3,w4,a1,a2,b',w',k1,k3,k4⟩:=step w.drew (bF (L.getD (i % L.length) 0)+IntKind.u8.wrap (IntKind.i64.wrap (Int.tdiv (i:Int) ((r.len:Nat):Int)))) ud rfl (by unfold rndF;rw[if_neg h0,hrl])
   rw[a1,bnd_ok]
   dsimp only
   rw[a2,bnd_ok,e3]
   exact⟨b',w',k1,k3,k4⟩
theorem K_14w{K:Nat}(hK:18446744073709551616≤K){w:World}{set need count:Int}{s r:Sl}{l L:List F}(hs:BSrc w s l)(hr:BSrc w r L){n:Nat}(hn:rndN need l.length=(n:Int)):
  ∃ r' w',K_3v K (dlC set s need count false r) w=some ((r',()),w')∧BSrc w' r' (rndLs L n)∧Upd none_ w w':=by
 have hsl:s.len=l.length:=by rw[hs.len,K_0]
 obtain⟨w0,n1,bc,u0,z0⟩:=K_g (dlC set s need count false r) 25 w
 have bc:Bk 25 w0 w.heap.size (dlL set s need count false r):=bc
 obtain⟨l0,l1,l2,l3,l4,l5⟩:=K_37 bc
 obtain⟨n',hn1,hn2⟩:=K_13e need l.length
 have:n'=n:=by omega
 subst this
 obtain⟨b',w',k1,k2,k3⟩:=K_11y (K:=K) (n:=n') (by omega) n' 0 K w0 ⟨none,0,0⟩ (by omega) (by omega) bc (hr.upd0 u0) (OwnS.nil _ _) (fun k hk=>by cases hk) (fun q hq hne k hk=>by cases hk)
 have k1:K_s K K ⟨w.heap.size,0,none⟩ ((n':Nat):Int) ⟨none,0,0⟩ 0 w0=_:=k1
 refine⟨b',w',?_,k2.src (K_14 _),u0.and0 (k3.mono fun k _ e=>by cases e)⟩
 unfold K_3v
 rw[n1,bnd_ok,l4,J_bs,if_neg (by decide),l2,J_bs,l1,J_bs,hsl,rndL,hn1,J_bs,k1,bnd_ok]
end Go.Sh

namespace Go.Sh
open Go.Fw Go.Gf Go.Sha Go.RowKit Go.Proofs.Tryd
def secD(l:List F):List F:=if l.take 64=[] then [b8 5] else l.take 64
def needD(need:Int):Nat:=idxU need 16+1
def cntD(need count:Int):Nat:=needD need+idxU count 9
def rndD(L:List F)(need:Int)(l:List F):List F:=rndLs L ((needD need - 1)*((secD l).length+4))
def rowsD(C S:List Int)(set:Nat)(l L:List F)(need:Int):List (List F):=linesC (rowP C S set (secD l)) (rndD L need l) (needD need)
def textsD(C S:List Int)(set:Nat)(l L:List F)(need count:Int):List ByteArray:=dealN set (needD need) (secD l).length (rowsD C S set l L need) (cntD need count)
theorem K_rd(l:List F):1≤(secD l).length∧(secD l).length≤64:=by
 unfold secD
 split
 ·exact⟨by simp,by simp⟩
 ·rename_i h
  exact⟨List.length_pos_iff.2 h,by rw[List.length_take];omega⟩
theorem K_di(need:Int):1≤needD need∧needD need≤16:=by have:=K_k0 need (n:=16) (by omega);unfold needD;omega
theorem K_uc(need count:Int):needD need≤cntD need count∧cntD need count≤24:=by have:=K_k0 count (n:=9) (by omega);have:=K_di need;unfold cntD;omega
theorem K_10v(need:Nat)(size:Nat)(h1:1≤need)(h2:need≤16)(h3:1≤size)(h4:size≤64):rndN (need:Int) size=(((need - 1)*(size+4):Nat):Int):=by
 unfold rndN
 rw[if_neg (by omega)]
 obtain⟨x,rfl⟩:∃ x,need=x+1:=⟨need - 1,by omega⟩
 have e1:(((x+1:Nat):Int) - 1)=(x:Int):=by omega
 have e2:((size:Int)+4)=((size+4:Nat):Int):=rfl
 rw[e1,e2,←Int.natCast_mul,Nat.add_sub_cancel]
theorem K_qr{need count size n:Nat}(h1:1≤need)(h2:need≤16)(h3:1≤size)(h4:size≤64)(h5:need≤count)(h6:count≤255)(hn:n=(need - 1)*(size+4)):dealE size (need:Int) (count:Int) n=0:=by
 have hm:mayE size (need:Int) (count:Int)=0:=by unfold mayE;rw[if_neg (by omega),if_neg (by omega)]
 unfold dealE
 rw[if_neg (fun e=>e hm),if_neg (fun e=>e (by rw[K_10v need size h1 h2 h3 h4,hn]))]
theorem K_x2{C S:List Int}{set need count:Nat}{sec R:List F}(h1:1≤need)(h2:need≤16)(h3:1≤sec.length)(h4:sec.length≤64)(h5:need≤count)(h6:count≤255)(hn:R.length=(need - 1)*(sec.length+4)):dealT C S set sec (need:Int) (count:Int) R=dealN set need sec.length (linesC (rowP C S set sec) R need) count:=by
 unfold dealT
 rw[if_pos (K_qr h1 h2 h3 h4 h5 h6 hn),J_tn,J_tn]
theorem idx16(i:Int)(n:Nat)(h0:0<n)(hn:n≤1000):IntKind.i64.wrap (Int.tmod (IntKind.u64.wrap i) (n:Int))=((idxU i n:Nat):Int):=by
 have:=K_10s i h0 (show n≤1000000 by omega)
 rw[K_ub (by omega)]at this;exact this
theorem K_wl{K:Nat}(hK:18446744073709551616≤K){w:World}{C S:List Int}(T:Tabs w C S){set:Nat}(hset:set<65536){need count:Int}{own:Bool}{s r:Sl}{l L:List F}(hs:BSrc w s l)(hr:BSrc w r L):
  ∃ s' sl w',K_2v K (dlC (set:Int) s need count own r) w=some ((dlC (set:Int) s' ((needD need:Nat):Int) ((cntD need count:Nat):Int) false r,sl,true,()),w')∧Upd none_ w w'∧BSrc w' s' (secD l)∧OwnS 9 w' sl (tx (textsD C S set l L need count))∧Fresh w.heap.size s'∧Fresh w.heap.size sl∧(∀ k,sl.blk=some k→s'.blk≠some k):=by
 obtain⟨w1,a1,a2,a3,a4⟩:=K_g (dlC (set:Int) s need count own r) 25 w
 have a2:Bk 25 w1 w.heap.size (dlL (set:Int) s need count own r):=a2
 obtain⟨w2,b1,b2,b3,b4⟩:=K_g z25 25 w1
 have hz:z25=(dlL 0 nilF 0 0 false nilF).toArray:=by kernel_rfl
 have b2:Bk 25 w2 w1.heap.size (dlL 0 nilF 0 0 false nilF):=by rw[hz]at b2;exact b2
 have q1:=a3.size
 obtain⟨w3,c1,c2,c3⟩:=(a2.upd0 b3).stC (i:=4) (by simp[dlL]) (.bool false)
 have c2:Bk 25 w3 w.heap.size (dlL (set:Int) s need count false r):=c2
 have c1:stC ((⟨w.heap.size,0,none⟩:Addr).add 4) (.bool false) w2=some w3:=by rw[add_lit];exact c1
 obtain⟨w4,d1,d2,d3⟩:=K_ug sliceB w3
 have u3:Upd none_ w w3:=(a3.and0 b3).trans' c3 fun k hk e=>by omega
 have u4:=u3.and0 d3
 have c24:=c2.upd0 d3
 have b24:=(b2.upd c3 (fun e=>by omega)).upd0 d3
 have e1:=(K_37 c24).2.1
 obtain⟨s5,f1,f2,f3⟩:=K_oy (hs.upd0 u4) 64
 have f1:K_1b s 64=_:=f1
 have hs5l:s5.len=(l.take 64).length:=by rw[f2.len,K_0]
 obtain⟨s6,w6,g1,g2,g3,g4,g5⟩:=K_34 sliceB d2 f2 (by show (0+s5.len)*1≤_;omega)
 have g3:OwnS 5 w6 s6 (fb (l.take 64)):=g3
 have q3:=u3.size
 have q4:=d3.size
 have qb:=b3.size
 have hg5:∀ k,s6.blk=some k→w3.heap.size≤k:=fun k hk=>by
  rcases g5 with e | e
  ·rw[e]at hk;have e2:w3.heap.size=k:=Option.some.inj hk;omega
  ·rw[e]at hk;have e2:w4.heap.size=k:=Option.some.inj hk;omega
 have u46:Upd (fun k=>w3.heap.size≤k) w4 w6:=g4.mono fun k _ e=>by have e2:w3.heap.size=k:=Option.some.inj e;omega
 have u6:Upd none_ w w6:=u4.trans' u46 fun k hk e=>by omega
 have q6:=u46.size
 have q23:=c3.size
 have hb2z:=b2.lt
 have c26:=c24.upd u46 fun e=>by omega
 have b26:=b24.upd u46 fun e=>by omega
 obtain⟨w7,h1,h2,h3⟩:=c26.stC (i:=1) (by simp[dlL]) (slV s6)
 have h1:stC ((⟨w.heap.size,0,none⟩:Addr).add 1) (.slice s6.a s6.len s6.cap) w6=some w7:=by rw[add_lit];exact h1
 have h2:Bk 25 w7 w.heap.size (dlL (set:Int) s6 need count false r):=h2
 have u7:Upd none_ w w7:=u6.trans' h3 fun k hk e=>by omega
 have g37:=g3.upd h3 (fun k hk e=>by have:=hg5 k hk;omega)
 have b27:=b26.upd h3 (fun e=>by omega)
 have hs6l:s6.len=(l.take 64).length:=by rw[g3.len,K_0]
 have q7:=u7.size
 have q67:=h3.size
 have sec:∃ s8 w8,K_3y K ⟨w.heap.size,0,none⟩ (((s6.len:Nat):Int) == 0) w7=some ((),w8)∧Bk 25 w8 w.heap.size (dlL (set:Int) s8 need count false r)∧Upd (fun k=>k=w.heap.size) w7 w8∧OwnS 5 w8 s8 (fb (secD l))∧∀ k,s8.blk=some k→w3.heap.size≤k:=by
  unfold K_3y secD
  by_cases h0:l.take 64=[]
  ·rw[if_pos (by rw[hs6l,h0];rfl),if_pos h0]
   obtain⟨w8,i1,i2,i3,i4⟩:=K_4b sliceB (fb [b8 5]) (fun v hv=>by obtain⟨x,_,rfl⟩:=List.mem_map.1 hv;rfl) (by rw[K_0];simp) (by rw[K_0];simp) w7
   have i1:bldS prog 23 1 #[(0,(.int .u8 5))] w7=some (⟨some ⟨w7.heap.size,0,none⟩,1,1⟩,w8):=i1
   have i2:OwnS 5 w8 ⟨some ⟨w7.heap.size,0,none⟩,1,1⟩ (fb [b8 5]):=i2
   obtain⟨w9,j1,j2,j3⟩:=(h2.upd0 i3).stC (i:=1) (by simp[dlL]) (.slice (some ⟨w7.heap.size,0,none⟩) 1 1)
   have j1:stC ((⟨w.heap.size,0,none⟩:Addr).add 1) (.slice (some ⟨w7.heap.size,0,none⟩) 1 1) w8=some w9:=by rw[add_lit];exact j1
   refine⟨⟨some ⟨w7.heap.size,0,none⟩,1,1⟩,w9,?_,j2,(i3.mono fun _ _ e=>e.elim).trans' j3 fun _ _ e=>e,i2.upd j3 fun k hk e=>?_,fun k hk=>?_⟩
   ·rw[i1,bnd_ok]
    dsimp only
    rw[j1,J_bs]
   ·have e2:w7.heap.size=k:=Option.some.inj hk
    omega
   ·have e2:w7.heap.size=k:=Option.some.inj hk
    omega
  ·rw[if_neg (by rw[hs6l,beq_iff_eq];have:=List.length_pos_iff.2 h0;omega),if_neg h0]
   exact⟨s6,w7,rfl,h2,Upd.refl _ _,g37,hg5⟩
 obtain⟨s8,w8,i1,i2,i3,i4,i5⟩:=sec
 have e6:=(K_37 h2).2.1
 have hsec:=K_rd l
 have hneed:=K_di need
 have hcnt:=K_uc need count
 have q8:=i3.size
 have l2:=(K_37 i2).2.2.1
 obtain⟨w9,j1,j2,j3⟩:=i2.stC (i:=2) (by simp[dlL]) (.int .i64 ((needD need:Nat):Int))
 have j1:stC ((⟨w.heap.size,0,none⟩:Addr).add 2) (.int .i64 ((needD need:Nat):Int)) w8=some w9:=by rw[add_lit];exact j1
 have j2:Bk 25 w9 w.heap.size (dlL (set:Int) s8 ((needD need:Nat):Int) count false r):=j2
 obtain⟨_,_,m2,m3,_,_⟩:=K_37 j2
 obtain⟨w10,n1,n2,n3⟩:=j2.stC (i:=3) (by simp[dlL]) (.int .i64 ((cntD need count:Nat):Int))
 have n1:stC ((⟨w.heap.size,0,none⟩:Addr).add 3) (.int .i64 ((cntD need count:Nat):Int)) w9=some w10:=by rw[add_lit];exact n1
 have n2:Bk 25 w10 w.heap.size (dlL (set:Int) s8 ((needD need:Nat):Int) ((cntD need count:Nat):Int) false r):=n2
 have u810:Upd (fun k=>k=w.heap.size) w7 w10:=(i3.trans' j3 fun _ _ e=>e).trans' n3 fun _ _ e=>e
 have u10:Upd none_ w w10:=u7.trans' u810 fun k hk e=>by omega
 have q10:=u810.size
 have i410:OwnS 5 w10 s8 (fb (secD l)):=(i4.upd j3 fun k hk e=>by have:=i5 k hk;omega).upd n3 fun k hk e=>by have:=i5 k hk;omega
 have b210:=b27.upd u810 (fun e=>by omega)
 have ud:Upd none_ w10 w10.drew:=(Upd.refl _ _).drew
 have n2d:=n2.upd0 ud
 obtain⟨o0,o1,o2,o3,_,_⟩:=K_37 n2d
 have oA:∀ {v:World},Bk 25 v w.heap.size (dlL (set:Int) s8 ((needD need:Nat):Int) ((cntD need count:Nat):Int) false r)→ldA 6 ⟨w.heap.size,0,none⟩ v=some (dlC (set:Int) s8 ((needD need:Nat):Int) ((cntD need count:Nat):Int) false r):=fun b=>b.ldA (i:=0) (n:=6) (by simp[dlL])
 have ud10:=u10.and0 ud
 obtain⟨r1,w11,p1,p2,p3⟩:=K_14w hK (set:=(set:Int)) (need:=((needD need:Nat):Int)) (count:=((cntD need count:Nat):Int)) ((i410.upd0 ud).src (K_14 _)) (hr.upd0 ud10) (K_10v _ _ hneed.1 hneed.2 hsec.1 hsec.2)
 have p2:BSrc w11 r1 (rndD L need l):=p2
 have u11:=ud10.and0 p3
 have n211:=n2d.upd0 p3
 obtain⟨x0,x1,x2,x3,_,_⟩:=K_37 n211
 have hRl:(rndD L need l).length=(needD need - 1)*((secD l).length+4):=K_v3 _ _
 obtain⟨sl,w12,t1,t2,t3,t4⟩:=K_z1 hK (T.upd0 u11) hset (need:=((needD need:Nat):Int)) (count:=((cntD need count:Nat):Int)) (((i410.upd0 ud).upd0 p3).src (K_14 _)) p2
 rw[K_qr hneed.1 hneed.2 hsec.1 hsec.2 hcnt.1 (by omega) hRl]at t1
 rw[K_x2 hneed.1 hneed.2 hsec.1 hsec.2 hcnt.1 (by omega) hRl]at t2
 have t2:OwnS 9 w12 sl (tx (textsD C S set l L need count)):=t2
 have u12:=u11.and0 t3
 have n212:=n211.upd0 t3
 obtain⟨y0,y1,y2,y3,_,_⟩:=K_37 n212
 have s1:K_3z K ⟨w.heap.size,0,none⟩ w10=some ((sl,0,()),w12):=by
  unfold K_3z
  rw[o0,J_bs,o1,J_bs,o2,J_bs,o3,J_bs,oA n2d,J_bs,p1,bnd_ok,oA n211,J_bs,K_7,x3,J_bs,K_7,x2,J_bs,K_7,x1,J_bs,K_7,x0,J_bs,K_7,t1,bnd_ok,oA n212,J_bs,K_7,y3,J_bs,K_7,y2,J_bs,K_7,y1,J_bs,K_7,y0,J_bs,K_7]
 have ud2:Upd none_ w12 w12.drew:=(Upd.refl _ _).drew
 have n213:=n212.upd0 ud2
 have q12:=u12.size
 have b212:=(((b210.upd0 ud).upd0 p3).upd0 t3).upd0 ud2
 obtain⟨w13,v1,v2,v3⟩:=b212.stA (o:=0) (vs:=dlC (set:Int) s8 ((needD need:Nat):Int) ((cntD need count:Nat):Int) false r) (by simp[dlL,dlC]) (fun v hv=>by
  simp only[dlC,dlL,List.mem_cons,List.not_mem_nil,or_false]at hv
  rcases hv with rfl | rfl | rfl | rfl | rfl | rfl <;> rfl)
 have v2:Bk 25 w13 w1.heap.size (dlL (set:Int) s8 ((needD need:Nat):Int) ((cntD need count:Nat):Int) false r):=v2
 have n214:=n213.upd v3 (fun e=>by omega)
 obtain⟨_,_,_,z3,_,_⟩:=K_37 n213
 obtain⟨_,_,_,z4,_,_⟩:=K_37 n214
 have hsll:sl.len=cntD need count:=by rw[t2.len,K_4t];exact K_7s _ _ _ _ _
 have s2:K_41 K ⟨w.heap.size,0,none⟩ ⟨w1.heap.size,0,none⟩ ⟨none,0,0⟩ false sl 0 w12=some ((sl,true,()),w13):=by
  unfold K_41 K_5w
  rw[oA n213,J_bs,J_bs,J_bs,K_7,if_pos (by rfl),z3,J_bs,if_pos (by rfl),v1,J_bs,z4,J_bs,K_7,oA n214,J_bs,K_7,hsll]
  simp
 have vA:=v2.ldA (i:=0) (n:=6) (by simp[dlL])
 have vA:ldA 6 ⟨w1.heap.size,0,none⟩ w13=some (dlC (set:Int) s8 ((needD need:Nat):Int) ((cntD need count:Nat):Int) false r):=vA
 have u13:Upd none_ w w13:=(u12.and0 ud2).trans' v3 fun k hk e=>by omega
 have qa:=ud.size
 have qp:=p3.size
 have q1012:w10.heap.size≤w11.heap.size:=by have:=p3.size;exact this
 have i4':∀ k,s8.blk=some k→k<w10.heap.size:=fun k hk=>i410.lt hk
 have hs12:BSrc w13 s8 (secD l):=((((i410.upd0 ud).upd0 p3).upd0 t3).upd0 ud2 |>.upd v3 (fun k hk e=>by have:=i5 k hk;omega)).src (K_14 _)
 have hsl13:OwnS 9 w13 sl (tx (textsD C S set l L need count)):=(t2.upd0 ud2).upd v3 fun k hk e=>by have:=t4 k hk;omega
 have en:IntKind.i64.wrap (1+IntKind.i64.wrap (Int.tmod (IntKind.u64.wrap need) 16))=((needD need:Nat):Int):=by
  have:=idx16 need 16 (by omega) (by omega)
  have h2:=K_k0 need (n:=16) (by omega)
  have this:IntKind.i64.wrap (Int.tmod (IntKind.u64.wrap need) 16)=_:=this
  unfold needD
  rw[this,w64 (by omega) (by omega)];omega
 have ec:IntKind.i64.wrap (((needD need:Nat):Int)+IntKind.i64.wrap (Int.tmod (IntKind.u64.wrap count) 9))=((cntD need count:Nat):Int):=by
  have:=idx16 count 9 (by omega) (by omega)
  have h2:=K_k0 count (n:=9) (by omega)
  have this:IntKind.i64.wrap (Int.tmod (IntKind.u64.wrap count) 9)=_:=this
  unfold cntD
  rw[this,w64 (by omega) (by omega)];omega
 refine⟨s8,sl,w13,?_,u13,hs12,hsl13,fun k hk=>by have:=i5 k hk;omega,fun k hk=>by have:=t4 k hk;omega,fun k hk e=>by have:=t4 k hk;have:=i4' k e;omega⟩
 unfold K_2v
 rw[a1,bnd_ok,b1,bnd_ok,c1,J_bs,d1,bnd_ok,e1,J_bs,f1,J_bs]
 dsimp only
 rw[g1,bnd_ok,h1,J_bs,e6,J_bs,i1,bnd_ok,l2,J_bs,en,j1,J_bs,m2,J_bs,m3,J_bs,ec,n1,J_bs,s1,bnd_ok]
 dsimp only
 rw[s2,bnd_ok,vA,J_bs]
end Go.Sh

namespace Go.Sh
open Go.Fw Go.Gf Go.Sha Go.RowKit Go.Proofs.Tryd
structure Dealt(C S:List Int) (set need size:Nat) (sec:List F) (rows:List (List F)):Prop where
 dset:set<65536
 dneed:1≤need∧need≤16
 dsize:1≤size∧size≤64
 dsec:sec.length=size
 drows:rows.length=size+4
 dpol:∀ c∈rows,c.length=need
 dzero:valsAt rows 0=rowP C S set sec
theorem K_m5{rows:List (List F)}{x:F}{v:Nat}(h:v<(valsAt rows x).length):(valsAt rows x)[v]=ev (rows[v]'(by rw[K_59]at h;exact h)) x:=by simp[valsAt]
theorem K_rc(C S:List Int){set need:Nat}{sec R:List F}(h1:set<65536)(h2:1≤need∧need≤16)(h3:1≤sec.length∧sec.length≤64):Dealt C S set need sec.length sec (linesC (rowP C S set sec) R need):=by
 refine⟨h1,h2,h3,rfl,by rw[K_58,K_tf],fun c hc=>by have:=K_m8 _ _ _ c hc;omega,?_⟩
 apply List.ext_getElem
 ·rw[K_59,K_58]
 ·intro i hi1 hi2
  rw[K_m5,K_14e (by rw[K_m8 _ _ _ _ (List.getElem_mem _)];omega)]
  have hl:=K_s5 (rowP C S set sec) R need i hi2
  rw[J_gd,J_ge (by rw[K_58];exact hi2)]at hl
  have hl:(linesC (rowP C S set sec) R need)[i]'(by rw[K_58];exact hi2)=lineC (rowP C S set sec) R need i:=hl
  rw[hl]
  show (rowP C S set sec).getD i 0=_
  rw[K_fz hi2]
section
variable {C S:List Int} {set need size:Nat} {sec:List F} {rows:List (List F)}
def lineX(set need size:Nat)(rows:List (List F))(x:Nat):List F:=lineL set need x size (valsAt rows (b8 x))
theorem Dealt.ok(D:Dealt C S set need size sec rows){x:Nat}(hx:1≤x∧x≤255):OkL set need x size (valsAt rows (b8 x)):=⟨D.dset,D.dneed,hx,D.dsize,by rw[K_59,D.drows]⟩
theorem K_128{n i:Nat}(h:i<n):(dealN set need size rows n).getD i str0=textOf (lineX set need size rows (i+1)):=by
 unfold dealN
 rw[K_le _ _ 0 str0 (by simpa using h)]
 have:(List.range n).getD i 0=i:=by rw[J_gd,List.getElem?_range h];rfl
 rw[this];rfl
def dedG:List Nat→List Nat→List Nat
 | acc,[]=>acc
 | acc,x :: r=>if x∈acc then dedG acc r else dedG (acc ++ [x]) r
theorem K_fh:∀ (r acc:List Nat),acc.Nodup→(dedG acc r).Nodup
 | [],acc,h=>h
 | x :: r,acc,h=>by
  show (if x∈acc then dedG acc r else dedG (acc ++ [x]) r).Nodup
  split
  ·exact K_fh r acc h
  ·rename_i c
   exact K_fh r _ (List.nodup_append.2 ⟨h,by simp,fun a ha b hb e=>c (by rw[←List.mem_singleton.1 hb,←e];exact ha)⟩)
theorem K_kv:∀ (r acc:List Nat) (y:Nat),y∈dedG acc r↔y∈acc∨y∈r
 | [],acc,y=>by show y∈acc↔_;simp
 | x :: r,acc,y=>by
  show y∈(if x∈acc then dedG acc r else dedG (acc ++ [x]) r)↔_
  split
  ·rename_i c
   rw[K_kv r acc y]
   constructor
   ·rintro(h | h)
    ·exact .inl h
    ·exact .inr (List.mem_cons_of_mem _ h)
   ·rintro(h | h)
    ·exact .inl h
    ·rcases List.mem_cons.1 h with rfl | h
     ·exact .inl c
     ·exact .inr h
  ·rw[K_kv r _ y]
   simp only[List.mem_append,List.mem_cons,List.not_mem_nil,or_false]
   constructor
   ·rintro((h | h) | h)
    ·exact .inl h
    ·exact .inr (.inl h)
    ·exact .inr (.inr h)
   ·rintro(h | h | h)
    ·exact .inl (.inl h)
    ·exact .inl (.inr h)
    ·exact .inr h
theorem Dealt.find(D:Dealt C S set need size sec rows):∀ (acc:List Nat) (x:Nat),(∀ y∈acc,1≤y∧y≤255)→(acc.map (lineX set need size rows)).find? (fun a=>bAt a 3 == x)=if x∈acc then some (lineX set need size rows x) else none
 | [],x,h=>by rw[if_neg (fun h=>by cases h)];rfl
 | y :: acc,x,h=>by
  have hy:=(K_4c (D.ok (h y (List.mem_cons_self ..)))).2.2.1
  have ih:=D.find acc x fun z hz=>h z (List.mem_cons_of_mem _ hz)
  rw[List.map_cons,List.find?_cons]
  have hy:bAt (lineX set need size rows y) 3=y:=hy
  by_cases c:y=x
  ·have:(bAt (lineX set need size rows y) 3 == x)=true:=by rw[hy,c];simp
   rw[this,if_pos (by rw[c];exact List.mem_cons_self ..),c]
  ·have:(bAt (lineX set need size rows y) 3 == x)=false:=by rw[hy];simp[c]
   rw[this]
   dsimp only
   rw[ih]
   by_cases m:x∈acc
   ·rw[if_pos m,if_pos (List.mem_cons_of_mem _ m)]
   ·rw[if_neg m,if_neg (fun h=>(List.mem_cons.1 h).elim (fun e=>c e.symm) m)]
theorem Dealt.own(D:Dealt C S set need size sec rows):∀ (r acc:List Nat),(∀ y∈acc,1≤y∧y≤255)→(∀ y∈r,1≤y∧y≤255)→ownL (acc.map (lineX set need size rows)) (r.map (lineX set need size rows))=some ((dedG acc r).map (lineX set need size rows))
 | [],acc,_,_=>rfl
 | x :: r,acc,ha,hr=>by
  have hx:=(K_4c (D.ok (hr x (List.mem_cons_self ..)))).2.2.1
  have hx:bAt (lineX set need size rows x) 3=x:=hx
  have hf:=D.find acc x ha
  rw[List.map_cons]
  show _=some ((if x∈acc then dedG acc r else dedG (acc ++ [x]) r).map _)
  have hr':∀ y∈r,1≤y∧y≤255:=fun y hy=>hr y (List.mem_cons_of_mem _ hy)
  by_cases c:x∈acc
  ·rw[if_pos c]at hf
   rw[if_pos c,K_nv (a:=lineX set need size rows x) (by rw[hx];exact hf),if_pos rfl]
   exact D.own r acc ha hr'
  ·rw[if_neg c]at hf
   rw[if_neg c,K_ht (by rw[hx];exact hf)]
   have:=D.own r (acc ++ [x]) (fun y hy=>(List.mem_append.1 hy).elim (ha y) fun h=>by rw[List.mem_singleton.1 h];exact hr x (List.mem_cons_self ..)) hr'
   rw[List.map_append]at this
   exact this
theorem K_o0:∀ (ps:List (List F×List F)),(∀ p∈ps,(∃ m,p.1.length=2*m)∧14≤p.1.length∧p.1.length≤78∧Near p.1 p.2∧fitB p.2=true)→mendAll (ps.map fun p=>natsOf (textOf p.1))=(0,ps.map (·.2))
 | [],_=>rfl
 | p :: ps,h=>by
  obtain⟨⟨m,h1⟩,h2,h3,h4,h5⟩:=h p (List.mem_cons_self ..)
  have hm:=K_124 h1 h2 h3 h4 h5
  rw[List.map_cons,K_77 (x:=(p.2,far p.1 p.2)) (by rw[hm]),K_o0 ps fun q hq=>h q (List.mem_cons_of_mem _ hq)]
  rfl
theorem Dealt.alike(D:Dealt C S set need size sec rows){x y:Nat}(hx:1≤x∧x≤255)(hy:1≤y∧y≤255):alikeB (lineX set need size rows x) (lineX set need size rows y)=true:=by
 obtain⟨a1,a2,a3,a4⟩:=K_4c (D.ok hx)
 obtain⟨b1,b2,b3,b4⟩:=K_4c (D.ok hy)
 exact decide_eq_true ⟨b1.trans a1.symm,b2.trans a2.symm,b4.trans a4.symm⟩
theorem Dealt.betw(D:Dealt C S set need size sec rows){xs:List Nat}(hn:xs.Nodup)(hb:∀ y∈xs,1≤y∧y≤255)(hl:need≤xs.length)(x:F):betwL (xs.map (lineX set need size rows)) need (size+4) x=valsAt rows x:=by
 apply List.ext_getElem
 ·rw[K_ce,K_59,D.drows]
 ·intro v h1 h2
  rw[K_ce]at h1
  have hv:v<rows.length:=by rw[D.drows];exact h1
  have e:(betwL (xs.map (lineX set need size rows)) need (size+4) x)[v]'(by rw[K_ce];exact h1)=lag (ptsL ((xs.map (lineX set need size rows)).take need) v) x:=by simp[betwL]
  rw[e,K_m5]
  have hnd:((ptsL ((xs.map (lineX set need size rows)).take need) v).map (·.1)).Nodup:=by
   rw[K_13d]
   apply K_120
   rw[←List.map_take,List.map_map]
   have hm:(xs.take need).map ((bAt · 3) ∘ lineX set need size rows)=xs.take need:=by
    conv=>rhs;rw[←List.map_id (xs.take need)]
    exact List.map_congr_left fun y hy=>(K_4c (D.ok (hb y (List.mem_of_mem_take hy)))).2.2.1
   rw[hm]
   exact hn.sublist (List.take_sublist _ _)
  have hpl:(ptsL ((xs.map (lineX set need size rows)).take need) v).length=need:=by rw[K_13n,List.length_take,List.length_map];omega
  refine K_zl (f:=ev rows[v]) hnd ?_ (fun p hp=>?_) x
  ·rw[hpl,←D.dpol rows[v] (List.getElem_mem hv)]
   exact IsPoly.ev _
  ·unfold ptsL at hp
   obtain⟨c,hc,rfl⟩:=List.mem_map.1 hp
   rw[←List.map_take]at hc
   obtain⟨y,hy,rfl⟩:=List.mem_map.1 hc
   have hyb:=hb y (List.mem_of_mem_take hy)
   have h3:bAt (lineX set need size rows y) 3=y:=(K_4c (D.ok hyb)).2.2.1
   have h4:valsP (lineX set need size rows y)=valsAt rows (b8 y):=K_s8 (D.ok hyb)
   dsimp only
   rw[h3,h4,←K_fz (by rw[K_59];exact hv),K_m5]
theorem Dealt.first(D:Dealt C S set need size sec rows){xs:List Nat}(h0:0<xs.length)(hb:∀ y∈xs,1≤y∧y≤255):setN ((xs.map (lineX set need size rows)).getD 0 [])=set∧bAt ((xs.map (lineX set need size rows)).getD 0 []) 2=need∧bAt ((xs.map (lineX set need size rows)).getD 0 []) 4=size:=by
 rw[K_le _ xs 0 [] h0]
 obtain⟨a1,a2,a3,a4⟩:=K_4c (D.ok (hb _ (K_rp 0 h0)))
 exact⟨a1,a2,a4⟩
theorem Dealt.join(D:Dealt C S set need size sec rows){ps:List (List F×Nat)}(h0:0<ps.length)(hp:∀ p∈ps,(1≤p.2∧p.2≤255)∧Near p.1 (lineX set need size rows p.2)):
  joinR C S (ps.map fun p=>natsOf (textOf p.1))=if (dedG [] (ps.map (·.2))).length<need then(114,[]) else(0,(dedG [] (ps.map (·.2))).map (lineX set need size rows)):=by
 have hxb:∀ y∈ps.map (·.2),1≤y∧y≤255:=fun y hy=>by obtain⟨p,hp',rfl⟩:=List.mem_map.1 hy;exact(hp p hp').1
 have hM:mendAll (ps.map fun p=>natsOf (textOf p.1))=(0,(ps.map (·.2)).map (lineX set need size rows)):=by
  have:=K_o0 (ps.map fun p=>(p.1,lineX set need size rows p.2)) (fun q hq=>by
   obtain⟨p,hp',rfl⟩:=List.mem_map.1 hq
   obtain⟨h1,h2⟩:=hp p hp'
   obtain⟨m,e1,e2,e3⟩:=K_t5 (D.ok h1)
   have hl:p.1.length=(lineX set need size rows p.2).length:=h2.1.symm
   have e1:(lineX set need size rows p.2).length=2*m:=e1
   exact⟨⟨m,by dsimp only;omega⟩,by dsimp only;omega,by dsimp only;omega,h2,K_11d (D.ok h1)⟩)
  rw[List.map_map,List.map_map]at this
  rw[List.map_map]
  exact this
 generalize hxs:ps.map (·.2)=xs at hM hxb ⊢
 have hxl:0<xs.length:=by rw[←hxs,List.length_map];exact h0
 obtain⟨x,r,rfl⟩:∃ x r,xs=x :: r:=by cases xs with | nil=>simp at hxl | cons x r=>exact⟨x,r,rfl⟩
 have hj:=K_m1 (C:=C) (S:=S) (Ts:=ps.map fun p=>natsOf (textOf p.1)) (a:=lineX set need size rows x) (r:=r.map (lineX set need size rows)) (by rw[hM]) (by rw[hM];rfl)
 have hx:=hxb x (List.mem_cons_self ..)
 have hall:(lineX set need size rows x :: r.map (lineX set need size rows)).all (alikeB (lineX set need size rows x))=true:=by
  rw[List.all_eq_true]
  intro c hc
  rw[←List.map_cons]at hc
  obtain⟨y,hy,rfl⟩:=List.mem_map.1 hc
  exact D.alike hx (hxb y hy)
 have hown:=D.own (x :: r) [] (fun y hy=>by cases hy) hxb
 rw[List.map_cons,List.map_nil]at hown
 rw[hj,if_neg (by rw[hall];decide),hown]
 dsimp only
 have hx2:bAt (lineX set need size rows x) 2=need:=(K_4c (D.ok hx)).2.1
 have hx4:bAt (lineX set need size rows x) 4=size:=(K_4c (D.ok hx)).2.2.2
 have hx0:setN (lineX set need size rows x)=set:=(K_4c (D.ok hx)).1
 rw[hx2,List.length_map]
 by_cases c:(dedG [] (x :: r)).length<need
 ·rw[if_pos c,if_pos c]
 ·rw[if_neg c,if_neg c]
  have hDn:=K_fh (x :: r) [] (by simp)
  have hDb:∀ y∈dedG [] (x :: r),1≤y∧y≤255:=fun y hy=>by
   rcases(K_kv (x :: r) [] y).1 hy with h | h
   ·cases h
   ·exact hxb y h
  have hbw:=D.betw hDn hDb (by omega)
  have hfit:fitL C S ((dedG [] (x :: r)).map (lineX set need size rows)) (setN (lineX set need size rows x)) need (bAt (lineX set need size rows x) 4)=true:=by
   unfold fitL
   rw[hx0,hx4]
   refine decide_eq_true ⟨fun c hc=>?_,?_⟩
   ·have hc:=List.mem_of_mem_drop hc
    obtain⟨y,hy,rfl⟩:=List.mem_map.1 hc
    have h3:bAt (lineX set need size rows y) 3=y:=(K_4c (D.ok (hDb y hy))).2.2.1
    have h4:valsP (lineX set need size rows y)=valsAt rows (b8 y):=K_s8 (D.ok (hDb y hy))
    rw[hbw,h3,h4]
   ·rw[hbw,D.dzero]
    congr 1
    unfold rowP
    rw[List.take_append_of_le_length (by rw[D.dsec];exact Nat.le_refl _),List.take_of_length_le (by rw[D.dsec];exact Nat.le_refl _)]
  rw[if_neg (by rw[hfit];decide)]
theorem Dealt.val(D:Dealt C S set need size sec rows){xs:List Nat}(hn:xs.Nodup)(hb:∀ y∈xs,1≤y∧y≤255)(hl:need≤xs.length)(x:F):valJ (xs.map (lineX set need size rows)) x=valsAt rows x:=by
 have h0:0<xs.length:=by have:=D.dneed;omega
 obtain⟨a1,a2,a3⟩:=D.first h0 hb
 unfold valJ
 rw[a2,a3]
 exact D.betw hn hb hl x
theorem Dealt.secret(D:Dealt C S set need size sec rows){xs:List Nat}(hn:xs.Nodup)(hb:∀ y∈xs,1≤y∧y≤255)(hl:need≤xs.length):secJ (0,xs.map (lineX set need size rows))=sec:=by
 have h0:0<xs.length:=by have:=D.dneed;omega
 obtain⟨a1,a2,a3⟩:=D.first h0 hb
 unfold secJ
 rw[if_pos rfl]
 dsimp only
 rw[a3,D.val hn hb hl,D.dzero]
 unfold rowP
 rw[List.take_append_of_le_length (by rw[D.dsec];exact Nat.le_refl _),List.take_of_length_le (by rw[D.dsec];exact Nat.le_refl _)]
end
end Go.Sh

namespace Go.Sh
open Go.Fw Go.Gf Go.Sha Go.RowKit Go.Proofs.Tryd
theorem K_sk{K:Nat}(hK:18446744073709551616≤K){w:World}{C S:List Int}(T:Tabs w C S){set need size:Nat}{sec:List F}{rows:List (List F)}(D:Dealt C S set need size sec rows){ps:List (List F×Nat)}(h0:0<ps.length)(hl:ps.length≤1000)(hp:∀ p∈ps,(1≤p.2∧p.2≤255)∧Near p.1 (lineX set need size rows p.2)){a:Sl}(hs:Src w a (tx (ps.map fun p=>textOf p.1)))(hlt:∀ q,a.a=some q→q.block<w.heap.size):
  ∃ s' w',Upd none_ w w'∧Fresh w.heap.size s'∧if (dedG [] (ps.map (·.2))).length<need then K_4e K a w=some ((s',114,()),w')∧s'.len=0 else K_4e K a w=some ((s',0,()),w')∧Vw 5 w' s' (fb sec):=by
 have hT:=K_134 (ps.map fun p=>textOf p.1)
 obtain⟨s',w',a1,a2,a3,a4⟩:=K_152 hK T hT (by rw[List.length_map];exact hl) hs (fun q hq _=>hlt q hq)
 rw[List.map_map]at a1 a3
 have hj:=D.join h0 hp
 have hj:joinR C S (List.map (natsOf ∘ fun p=>textOf p.1) ps)=_:=hj
 rw[hj]at a1 a3
 refine⟨s',w',a2,a4,?_⟩
 by_cases c:(dedG [] (ps.map (·.2))).length<need
 ·rw[if_pos c]at a1 a3 ⊢
  refine⟨a1,?_⟩
  have h1:secJ ((114:Int),([]:List (List F)))=[]:=by unfold secJ;rw[if_neg (by decide)]
  rw[h1]at a3
  have:=a3.len
  rw[K_0]at this;exact this
 ·rw[if_neg c]at a1 a3 ⊢
  refine⟨a1,?_⟩
  have hDb:∀ y∈dedG [] (ps.map (·.2)),1≤y∧y≤255:=fun y hy=>by
   rcases(K_kv _ [] y).1 hy with h | h
   ·cases h
   ·obtain⟨p,hp',rfl⟩:=List.mem_map.1 h;exact(hp p hp').1
  rw[D.secret (K_fh _ [] (by simp)) hDb (by omega)]at a3
  exact a3
theorem K_15k{K:Nat}(hK:18446744073709551616≤K){w:World}{C S:List Int}(T:Tabs w C S):∃ w',K_9k K w=some ((true,()),w')∧Upd none_ w w':=by
 obtain⟨w1,a1,a2,a3,a4⟩:=K_4b sliceB (fb [b8 1,b8 2,b8 3]) (fun v hv=>by obtain⟨x,_,rfl⟩:=List.mem_map.1 hv;rfl) (by rw[K_0];simp) (by rw[K_0];simp) w
 have a1:bldS prog 23 3 #[(0,(.int .u8 1)),(1,(.int .u8 2)),(2,(.int .u8 3))] w=some (⟨some ⟨w.heap.size,0,none⟩,3,3⟩,w1):=a1
 have a2:OwnS 5 w1 ⟨some ⟨w.heap.size,0,none⟩,3,3⟩ (fb [b8 1,b8 2,b8 3]):=a2
 obtain⟨w2,b1,b2,b3,b4⟩:=K_4b sliceB (fb [b8 9,b8 8,b8 7,b8 6,b8 5,b8 4,b8 3]) (fun v hv=>by obtain⟨x,_,rfl⟩:=List.mem_map.1 hv;rfl) (by rw[K_0];simp) (by rw[K_0];simp) w1
 have b1:bldS prog 23 7 #[(0,(.int .u8 9)),(1,(.int .u8 8)),(2,(.int .u8 7)),(3,(.int .u8 6)),(4,(.int .u8 5)),(5,(.int .u8 4)),(6,(.int .u8 3))] w1=some (⟨some ⟨w1.heap.size,0,none⟩,7,7⟩,w2):=b1
 have b2:OwnS 5 w2 ⟨some ⟨w1.heap.size,0,none⟩,7,7⟩ (fb [b8 9,b8 8,b8 7,b8 6,b8 5,b8 4,b8 3]):=b2
 generalize hsec:[b8 1,b8 2,b8 3]=sec at a2
 generalize hR:[b8 9,b8 8,b8 7,b8 6,b8 5,b8 4,b8 3]=R at b2
 have hsl:sec.length=3:=by rw[←hsec];rfl
 have hRl:R.length=7:=by rw[←hR];rfl
 have u2:=a3.and0 b3
 obtain⟨sl,w3,c1,c2,c3,c4⟩:=K_z1 hK (T.upd0 u2) (set:=7) (by omega) (need:=2) (count:=3) ((a2.upd0 b3).src (K_14 _)) (b2.src (K_14 _))
 have e1:dealE sec.length ((2:Nat):Int) ((3:Nat):Int) R.length=0:=K_qr (by omega) (by omega) (by omega) (by omega) (by omega) (by omega) (by rw[hsl,hRl])
 have e1:dealE sec.length 2 3 R.length=0:=e1
 have e2:dealT C S 7 sec ((2:Nat):Int) ((3:Nat):Int) R=_:=K_x2 (by omega) (by omega) (by omega) (by omega) (by omega) (by omega) (by rw[hsl,hRl])
 have e2:dealT C S 7 sec 2 3 R=dealN 7 2 sec.length (linesC (rowP C S 7 sec) R 2) 3:=e2
 have D:=K_rc C S (set:=7) (need:=2) (sec:=sec) (R:=R) (by omega) (by omega) (by omega)
 rw[e1]at c1
 rw[e2]at c2
 generalize hrows:linesC (rowP C S 7 sec) R 2=rows at c2 D
 have c1:K_5x K 7 ⟨some ⟨w.heap.size,0,none⟩,3,3⟩ 2 3 ⟨some ⟨w1.heap.size,0,none⟩,7,7⟩ w2=some ((sl,0,()),w3):=c1
 have hN:dealN 7 2 sec.length rows 3=[textOf (lineX 7 2 sec.length rows 1),textOf (lineX 7 2 sec.length rows 2),textOf (lineX 7 2 sec.length rows 3)]:=rfl
 rw[hN]at c2
 have hll:sl.len=3:=by rw[c2.len,K_4t];rfl
 have u3:=u2.and0 c3
 have hs0:K_8g K sl 0 w3=some ((false,()),w3):=by
  unfold K_8g K_5w
  rw[J_bs,if_neg (by decide),hll];rfl
 have ud:Upd none_ w3 w3.drew:=(Upd.refl _ _).drew
 have hsrc:=(c2.drew).src (K_kp _)
 obtain⟨p,p1,p2⟩:=tx_at hsrc (i:=2) (by simp)
 obtain⟨p',p1',p3⟩:=tx_at hsrc (i:=0) (by simp)
 obtain rfl:p'=p:=Option.some.inj (p1'.symm.trans p1)
 have p2:ldStr (p'.add (2*1)) w3.drew=some (textOf (lineX 7 2 sec.length rows 3)):=p2
 have p3:ldStr (p'.add (0*1)) w3.drew=some (textOf (lineX 7 2 sec.length rows 1)):=p3
 have q2:(0:Int)≤2∧(2:Int)<((sl.len:Nat):Int):=by omega
 have q0:(0:Int)≤0∧(0:Int)<((sl.len:Nat):Int):=by omega
 have q1:(0:Int)≤1∧(1:Int)<((sl.len:Nat):Int):=by omega
 obtain⟨w4,d1,d2,d3,d4⟩:=K_4b sliceT (tx [textOf (lineX 7 2 sec.length rows 3),textOf (lineX 7 2 sec.length rows 1)]) (fun v hv=>by obtain⟨x,_,rfl⟩:=List.mem_map.1 hv;rfl) (by rw[K_4t];simp) (by rw[K_4t];simp) w3.drew
 have d1:bldS prog 29 2 #[(0,(.string (textOf (lineX 7 2 sec.length rows 3)))),(1,(.string (textOf (lineX 7 2 sec.length rows 1))))] w3.drew=some (⟨some ⟨w3.drew.heap.size,0,none⟩,2,2⟩,w4):=d1
 have d2:OwnS 9 w4 ⟨some ⟨w3.drew.heap.size,0,none⟩,2,2⟩ (tx [textOf (lineX 7 2 sec.length rows 3),textOf (lineX 7 2 sec.length rows 1)]):=d2
 have u4:=(u3.and0 ud).and0 d3
 have near:∀ x,Near (lineX 7 2 sec.length rows x) (lineX 7 2 sec.length rows x):=fun x=>K_10t (K_qd _ _ _ _ _)
 obtain⟨s5,w5,f1,f2,f3⟩:=K_sk hK (T.upd0 u4) D (ps:=[(lineX 7 2 sec.length rows 3,3),(lineX 7 2 sec.length rows 1,1)]) (by simp) (by simp) (fun q hq=>by
  simp only[List.mem_cons,List.not_mem_nil,or_false]at hq
  rcases hq with rfl | rfl
  ·exact⟨show 1≤3∧3≤255 by decide,near 3⟩
  ·exact⟨show 1≤1∧1≤255 by decide,near 1⟩) (d2.src (K_kp _)) (K_ci d2)
 have hd2:(dedG [] (([(lineX 7 2 sec.length rows 3,3),(lineX 7 2 sec.length rows 1,1)]:List (List F×Nat)).map (·.2))).length=2:=rfl
 rw[if_neg (by rw[hd2];omega)]at f3
 obtain⟨f3,f4⟩:=f3
 have u5:=u4.and0 f1
 have c25:=((c2.drew.upd0 d3).upd0 f1).src (K_kp _)
 obtain⟨p6,p6',p4⟩:=tx_at c25 (i:=1) (by simp)
 obtain rfl:p6=p':=Option.some.inj (p6'.symm.trans p1)
 have p4:ldStr (p6.add (1*1)) w5=some (textOf (lineX 7 2 sec.length rows 2)):=p4
 obtain⟨w6,g1,g2,g3,g4⟩:=K_4b sliceT (tx [textOf (lineX 7 2 sec.length rows 2)]) (fun v hv=>by obtain⟨x,_,rfl⟩:=List.mem_map.1 hv;rfl) (by rw[K_4t];simp) (by rw[K_4t];simp) w5
 have g1:bldS prog 29 1 #[(0,(.string (textOf (lineX 7 2 sec.length rows 2))))] w5=some (⟨some ⟨w5.heap.size,0,none⟩,1,1⟩,w6):=g1
 have g2:OwnS 9 w6 ⟨some ⟨w5.heap.size,0,none⟩,1,1⟩ (tx [textOf (lineX 7 2 sec.length rows 2)]):=g2
 have u6:=u5.and0 g3
 obtain⟨s7,w7,i1,i2,i3⟩:=K_sk hK (T.upd0 u6) D (ps:=[(lineX 7 2 sec.length rows 2,2)]) (by simp) (by simp) (fun q hq=>by
  simp only[List.mem_cons,List.not_mem_nil,or_false]at hq
  rcases hq with rfl
  exact⟨show 1≤2∧2≤255 by decide,near 2⟩) (g2.src (K_kp _)) (K_ci g2)
 have hd1:(dedG [] (([(lineX 7 2 sec.length rows 2,2)]:List (List F×Nat)).map (·.2))).length=1:=rfl
 rw[if_pos (by rw[hd1];omega)]at i3
 have u7:=u6.and0 i1
 obtain⟨w8,j1,j2,j3,j4⟩:=K_4b sliceB (fb [b8 1,b8 2,b8 3]) (fun v hv=>by obtain⟨x,_,rfl⟩:=List.mem_map.1 hv;rfl) (by rw[K_0];simp) (by rw[K_0];simp) w7
 have j1:bldS prog 23 3 #[(0,(.int .u8 1)),(1,(.int .u8 2)),(2,(.int .u8 3))] w7=some (⟨some ⟨w7.heap.size,0,none⟩,3,3⟩,w8):=j1
 have j2:OwnS 5 w8 ⟨some ⟨w7.heap.size,0,none⟩,3,3⟩ (fb [b8 1,b8 2,b8 3]):=j2
 rw[hsec]at j2
 obtain⟨w9,k1,k2⟩:=K_w1 hK (xs:=sec.map bF) (ys:=sec.map bF) ((((f4.upd0 g3).upd0 i1).upd0 j3).rd) ((j2.src (K_14 _)).rds) (by rw[List.length_map];omega)
 refine⟨w9,?_,(u7.and0 j3).and0 k2⟩
 unfold K_9k K_5w
 rw[a1,bnd_ok,b1,bnd_ok,c1,bnd_ok]
 dsimp only
 rw[hs0,bnd_ok]
 dsimp only
 rw[if_neg (by decide),p1,J_bs,if_pos q2,J_bs,if_pos q0,p2,J_bs,p3,J_bs,d1,bnd_ok,f3,bnd_ok,J_bs,if_pos q1,p4,J_bs,g1,bnd_ok,i3.1,bnd_ok,J_bs]
 dsimp only
 rw[if_pos (by rfl),j1,bnd_ok,k1,bnd_ok,decide_eq_true rfl]
 rfl
end Go.Sh

namespace Go.Sh
open Go.Fw Go.Gf Go.RowKit Go.Proofs.Tryd
end Go.Sh

namespace Go.Sh
open Go.Fw Go.Gf Go.Sha Go.RowKit Go.Proofs.Tryd Go.Deep Go.ChangeShapes Go.WideShapes
theorem set2(A:List F)(u v:F)(B:List F)(x y:F):((A ++ u :: v :: B).set A.length x).set (A.length+1) y=A ++ [x,y] ++ B:=by
 simp[List.set_append]
theorem K_149(x y:F)(l m:List F):far (x :: l) (y :: m)=(if x=y then 0 else 1)+far l m:=by
 unfold far
 show (supp ((x+y) :: xorR l m)).length=_
 rw[K_bk]
 by_cases h:x=y
 ·rw[if_pos (by rw[h,F.add_self]),if_pos h,Nat.zero_add]
 ·rw[if_neg (F.add_ne_zero h),if_neg h,List.length_cons];omega
end Go.Sh

namespace Go.Sh
open Go.Fw Go.Gf Go.Sha Go.RowKit Go.Proofs.Tryd
theorem K_12u{β:Type}{r:β}{x y:Option β}(hx:x=some r)(hy:y=some r):allB [x,y]=some r:=by
 subst hx hy
 unfold allB
 rw[if_pos (by unfold allB;rfl)]
noncomputable def kT (W:World) (y:Bool×Unit) (w':World):Option Unit:=by
 classical exact if y=(true,())∧Upd none_ W w' then some () else none
theorem kT_ok{W w':World}(u:Upd none_ W w'):kT W (true,()) w'=some ():=by
 unfold kT;rw[if_pos ⟨rfl,u⟩]
theorem K_14m{W w':World}{y:Bool×Unit}(h:kT W y w'=some ()):y=(true,())∧Upd none_ W w':=by
 unfold kT at h
 split at h
 ·rename_i c;exact c
 ·cases h
theorem K_12e{K:Nat}{a b:Sl}{l m:List F}(hlm:l.length=m.length)(hl:l.length≤1000000):
  ∀ (d i f:Nat) (w:World) (x:Nat),i+d=l.length→d<f→x≤i→BSrc w a l→BSrc w b m→∃ w',K_11 K f a b (x:Int) (i:Int) w=some ((((x+far (l.drop i) (m.drop i):Nat):Int),()),w')∧Upd none_ w w':=by
 intro d
 induction d with
 | zero=>
  intro i f w x hi hf hx ha hb
  obtain⟨f,rfl⟩:∃ q,f=q+1:=⟨f - 1,by omega⟩
  have hal:a.len=l.length:=by rw[ha.len,K_0]
  refine⟨w,?_,Upd.refl _ _⟩
  rw[List.drop_eq_nil_of_le (by omega),List.drop_eq_nil_of_le (by omega)]
  show K_1k K (K_11 K f) a b (x:Int) (i:Int) w=_
  unfold K_1k
  rw[if_neg (by simp only[decide_eq_true_eq];omega)];rfl
 | succ d ih=>
  intro i f w x hi hf hx ha hb
  obtain⟨f,rfl⟩:∃ q,f=q+1:=⟨f - 1,by omega⟩
  have hal:a.len=l.length:=by rw[ha.len,K_0]
  have hbl:b.len=m.length:=by rw[hb.len,K_0]
  have h1:i<l.length:=by omega
  have h2:i<m.length:=by omega
  have ud:=(Upd.refl none_ w).drew
  have e3:IntKind.i64.wrap ((i:Int)+1)=((i+1:Nat):Int):=by rw[w64 (by omega) (by omega)];rfl
  have e4:IntKind.i64.wrap ((x:Int)+1)=((x+1:Nat):Int):=by rw[w64 (by omega) (by omega)];rfl
  obtain⟨p1,q1,q2⟩:=K_2b (ha.upd0 ud) h1
  obtain⟨p2,r1,r2⟩:=K_2b (hb.upd0 ud) h2
  have c1:(0:Int)≤(i:Int)∧(i:Int)<((a.len:Nat):Int):=by omega
  have c2:(0:Int)≤(i:Int)∧(i:Int)<((b.len:Nat):Int):=by omega
  rw[List.drop_eq_getElem_cons h1,List.drop_eq_getElem_cons h2,K_149]
  by_cases c:l[i]=m[i]
  ·obtain⟨w',k1,k2⟩:=ih (i+1) f w.drew x (by omega) (by omega) (by omega) (ha.upd0 ud) (hb.upd0 ud)
   refine⟨w',?_,k2.predrew⟩
   show K_1k K (K_11 K f) a b (x:Int) (i:Int) w=_
   unfold K_1k
   rw[if_pos (decide_eq_true (by omega)),q1,J_bs,if_pos c1,r1,J_bs,if_pos c2,J_tn,Nat.mul_one,q2,J_bs,r2,J_bs,if_neg (by rw[c];simp),e3,k1,if_pos c,Nat.zero_add]
  ·obtain⟨w',k1,k2⟩:=ih (i+1) f w.drew (x+1) (by omega) (by omega) (by omega) (ha.upd0 ud) (hb.upd0 ud)
   refine⟨w',?_,k2.predrew⟩
   show K_1k K (K_11 K f) a b (x:Int) (i:Int) w=_
   unfold K_1k
   rw[if_pos (decide_eq_true (by omega)),q1,J_bs,if_pos c1,r1,J_bs,if_pos c2,J_tn,Nat.mul_one,q2,J_bs,r2,J_bs,if_pos (by rw[bne_iff_ne];exact fun e=>c (K_xa e)),e4,e3,k1,if_neg c,Nat.add_assoc]
theorem K_16l{K:Nat}{w:World}{g1 g2:Nat}{set set2 need need2 count count2:Int}{own own2:Bool}{s s2 r r2:Sl}{l l2:List F}(b1:Bk 25 w g1 (dlL set s need count own r))(b2:Bk 25 w g2 (dlL set2 s2 need2 count2 own2 r2))(hne:g1≠g2)(hs:BSrc w s l)(hs2:BSrc w s2 l2):
  ∃ s3 w',Bk 25 w' g2 (dlL set2 s3 need2 count2 own2 r2)∧OwnS 5 w' s3 (fb (l2.take 64 ++ l.take 64))∧Fresh w.heap.size s3∧Upd (· =g2) w w'∧∀ {β:Type} (k:Unit→World→Option β) (x:β),k () w'=some x→K_22 K ⟨g1,0,none⟩ ⟨g2,0,none⟩ w k=some x:=by
 have ud:Upd none_ w w.drew:=(Upd.refl _ _).drew
 have hg1:=b1.lt
 have hg2:=b2.lt
 obtain⟨s5,f1,f2,f3⟩:=K_oy (hs.upd0 ud) 64
 obtain⟨s6,f4,f5,f6⟩:=K_oy (hs2.upd0 ud) 64
 have f1:K_1b s 64=_:=f1
 have f4:K_1b s2 64=_:=f4
 have l5:s5.len=(l.take 64).length:=by rw[f2.len,K_0]
 have l6:s6.len=(l2.take 64).length:=by rw[f5.len,K_0]
 obtain⟨w1,a1,a2,a3⟩:=K_ug sliceB w.drew
 obtain⟨s7,w2,c1,c2,c3,c4,c5⟩:=K_34 sliceB a2 (f5.upd0 a3) (by show (0+s6.len)*1≤_;omega)
 have c3:OwnS 5 w2 s7 (fb (l2.take 64)):=c3
 have z1:=a3.size
 have hzd:w.drew.heap.size=w.heap.size:=rfl
 have h7:∀ k,s7.blk=some k→w.heap.size≤k:=fun k hk=>by
  rcases c5 with e | e
  ·rw[e]at hk;have e2:w.drew.heap.size=k:=Option.some.inj hk;omega
  ·rw[e]at hk;have e2:w1.heap.size=k:=Option.some.inj hk;omega
 have u2:Upd none_ w w2:=(ud.and0 a3).trans' c4 fun k hk e=>by have e2:w.drew.heap.size=k:=Option.some.inj e;omega
 have f22:BSrc w2 s5 (l.take 64):=K_3r (f2.upd0 a3) c4 fun q hq hne e=>by
  have h1:=K_bu f2 q hq hne
  have e2:w.drew.heap.size=q.block:=Option.some.inj e
  omega
 have hl7:s7.len=(l2.take 64).length:=by rw[c3.len,K_0]
 obtain⟨s8,w3,d1,d2,d3,d4,d5⟩:=K_34 sliceB c3 f22 (by show (s7.len+s5.len)*1≤_;omega)
 have d3:OwnS 5 w3 s8 (fb (l2.take 64 ++ l.take 64)):=by rw[K_5v];exact d3
 have z2:=u2.size
 have h8:∀ k,s8.blk=some k→w.heap.size≤k:=fun k hk=>by
  rcases d5 with e | e
  ·rw[e]at hk;exact h7 k hk
  ·rw[e]at hk;have e2:w2.heap.size=k:=Option.some.inj hk;omega
 have u3:Upd none_ w w3:=u2.trans' d4 fun k hk e=>by have:=h7 k e;omega
 have b13:=b1.upd0 u3
 have b23:=b2.upd0 u3
 obtain⟨w4,e1,e2,e3⟩:=b23.stC (i:=1) (by simp[dlL]) (slV s8)
 have e1:stC ((⟨g2,0,none⟩:Addr).add 1) (.slice s8.a s8.len s8.cap) w3=some w4:=by rw[add_lit];exact e1
 have e2:Bk 25 w4 g2 (dlL set2 s8 need2 count2 own2 r2):=e2
 have u1:Upd none_ w w1:=ud.and0 a3
 have p0:=(K_37 (b1.upd0 ud)).2.1
 have q0:=(K_37 (b2.upd0 ud)).2.1
 have p1:=(K_37 (b1.upd0 u1)).2.1
 have q1:=(K_37 (b2.upd0 u1)).2.1
 have p2:=(K_37 (b1.upd0 u2)).2.1
 have z3:=u3.size
 refine⟨s8,w4,e2,d3.upd e3 fun k hk e=>by have:=h8 k hk;omega,h8,(u3.mono (T:=(· =g2)) fun _ _ e=>e.elim).trans' e3 fun _ _ e=>e,fun k x hk=>?_⟩
 unfold K_22
 rw[q0,J_bs,p0,J_bs]
 apply K_12u
 ·rw[a1,bnd_ok,p1,J_bs,K_7,q1,J_bs,K_7,f4,J_bs,J_bs,K_7]
  dsimp only
  rw[c1,bnd_ok,p2,J_bs,K_7,f1,J_bs]
  dsimp only
  rw[d1,bnd_ok,e1,J_bs,hk]
 ·rw[f4,J_bs,J_bs,K_7,a1,bnd_ok,p1,J_bs,K_7]
  dsimp only
  rw[c1,bnd_ok,p2,J_bs,K_7,f1,J_bs]
  dsimp only
  rw[d1,bnd_ok,e1,J_bs,hk]
theorem K_167{K:Nat}{w:World}{g1 g2:Nat}{set set2 need need2 count count2:Int}{own own2:Bool}{s s2 r r2:Sl}{l l2:List F}(b1:Bk 25 w g1 (dlL set s need count own r))(b2:Bk 25 w g2 (dlL set2 s2 need2 count2 own2 r2))(hs:BSrc w s l)(hs2:BSrc w s2 (l2.take 64 ++ l.take 64))(hlt:∀ q,s2.a=some q→q.block≠g2):
  ∃ s3 w' L3,Bk 25 w' g2 (dlL set2 s3 need2 count2 own2 r2)∧BSrc w' s3 L3∧Upd (· =g2) w w'∧K_4o K ⟨g1,0,none⟩ ⟨g2,0,none⟩ (decide ((((l.take 64).length:Nat):Int) > 0)) w=some ((),w'):=by
 unfold K_4o
 by_cases c:0<(l.take 64).length
 ·have ud:Upd none_ w w.drew:=(Upd.refl _ _).drew
  obtain⟨s5,f1,f2,f3⟩:=K_oy (hs.upd0 ud) 64
  have f1:K_1b s 64=_:=f1
  have l5:s5.len=(l.take 64).length:=by rw[f2.len,K_0]
  have l2':s2.len=(l2.take 64).length+(l.take 64).length:=by rw[hs2.len,K_0,List.length_append]
  have hc:=hs2.cap
  have hcut:=hs2.cut (n:=(l.take 64).length) (by omega)
  rw[K_g1]at hcut
  have p0:=(K_37 (b1.upd0 ud)).2.1
  have q0:=(K_37 (b2.upd0 ud)).2.1
  obtain⟨w4,e1,e2,e3⟩:=(b2.upd0 ud).stC (i:=1) (by simp[dlL]) (.slice s2.a (l.take 64).length s2.cap)
  have e1:stC ((⟨g2,0,none⟩:Addr).add 1) (.slice s2.a (l.take 64).length s2.cap) w.drew=some w4:=by rw[add_lit];exact e1
  have e2:Bk 25 w4 g2 (dlL set2 ⟨s2.a,(l.take 64).length,s2.cap⟩ need2 count2 own2 r2):=e2
  refine⟨⟨s2.a,(l.take 64).length,s2.cap⟩,w4,_,e2,Fw.Src.upd hcut e3.predrew fun q hq e=>hlt q hq e,e3.predrew,?_⟩
  rw[if_pos (decide_eq_true (by omega)),q0,J_bs,p0,J_bs,f1,J_bs]
  dsimp only
  rw[l5,if_pos (by omega),J_tn,sla_zero,Nat.sub_zero,Nat.sub_zero,e1,J_bs]
 ·rw[if_neg (by simp only[decide_eq_true_eq];omega)]
  exact⟨s2,w,_,b2,hs2,Upd.refl _ _,rfl⟩
end Go.Sh

namespace Go.Sh
open Go.Fw Go.Gf Go.Sha Go.RowKit Go.Proofs.Tryd
end Go.Sh

namespace Go.Sh
open Go.Fw Go.Gf Go.Sha Go.RowKit Go.Proofs.Tryd
theorem K_ws{K:Nat}(hK:18446744073709551616≤K){C S:List Int}{set need size n:Nat}{sec:List F}{rows:List (List F)}(D:Dealt C S set need size sec rows)(hn:1≤n∧n≤255){w:World}{sl:Sl}(hL:OwnS 9 w sl (tx (dealN set need size rows n)))(i:Int):
  ∃ q b w' l,sl.a=some q∧(IntKind.u64.wrap ((sl.len:Nat):Int)≠0)∧IntKind.i64.wrap (Int.tmod (IntKind.u64.wrap i) (IntKind.u64.wrap ((sl.len:Nat):Int)))=((idxU i n:Nat):Int)∧((0:Int)≤((idxU i n:Nat):Int)∧((idxU i n:Nat):Int)<((sl.len:Nat):Int))∧ldStr (q.add (idxU i n)) w=some (textOf l)∧K_5s K (textOf l) w=some ((b,true,()),w')∧OwnS 5 w' b (fb l)∧Upd none_ w w'∧l.length≤78∧Right l:=by
 have hsll:sl.len=n:=by rw[hL.len,K_4t];exact K_7s _ _ _ _ _
 have hai:=K_k0 i (n:=n) (by omega)
 obtain⟨q,q1,q2⟩:=tx_at (hL.src (K_kp _)) (i:=idxU i n) (by rw[K_7s];exact hai)
 have htx:(dealN set need size rows n)[idxU i n]'(by rw[K_7s];exact hai)=textOf (lineX set need size rows (idxU i n+1)):=by
  have:=K_128 (set:=set) (need:=need) (size:=size) (rows:=rows) hai
  rw[J_gd,J_ge (by rw[K_7s];exact hai)]at this
  exact this
 rw[htx]at q2
 have hx:1≤idxU i n+1∧idxU i n+1≤255:=by omega
 obtain⟨mm,hm1,hm2,hm3⟩:=K_t5 (D.ok hx)
 have hm1:(lineX set need size rows (idxU i n+1)).length=2*mm:=hm1
 obtain⟨b,w1,a1,a2,a3,a4⟩:=K_11s hK w hm1 (by omega) (by omega)
 refine⟨q,b,w1,_,q1,?_,?_,by omega,q2,a1,a2,a3,by omega,K_qd _ _ _ _ _⟩
 ·rw[hsll,K_ub (by omega)];omega
 ·rw[hsll];exact K_10s i (by omega) (by omega)
theorem K_vy{K:Nat}(hK:18446744073709551616≤K){C S:List Int}{W:World}(T:Tabs W C S){set:Nat}(hset:set<65536){s r:Sl}{need count:Int}{own:Bool}{ss rs:List Int}(P:BytesIn W s ss)(Q:BytesIn W r rs){set2:Nat}(hset2:set2<65536){s2 r2:Sl}{need2 count2:Int}{own2:Bool}{ss2 rs2:List Int}(P2:BytesIn W s2 ss2)(Q2:BytesIn W r2 rs2)(i k:Int):
  K_8z K (dlC (set:Int) s need count own r) (dlC (set2:Int) s2 need2 count2 own2 r2) i k W (kT W)=some ():=by
 obtain⟨l,rfl⟩:=K_lq P.inn
 obtain⟨L,rfl⟩:=K_lq Q.inn
 obtain⟨l2,rfl⟩:=K_lq P2.inn
 obtain⟨L2,rfl⟩:=K_lq Q2.inn
 have hs:BSrc W s l:=P.src
 have hr:BSrc W r L:=Q.src
 have hs2:BSrc W s2 l2:=P2.src
 have hr2:BSrc W r2 L2:=Q2.src
 obtain⟨w1,a1,a2,a3,a4⟩:=K_g (dlC (set:Int) s need count own r) 25 W
 have a2:Bk 25 w1 W.heap.size (dlL (set:Int) s need count own r):=a2
 obtain⟨w2,b1,b2,b3,b4⟩:=K_g (dlC (set2:Int) s2 need2 count2 own2 r2) 25 w1
 have b2:Bk 25 w2 w1.heap.size (dlL (set2:Int) s2 need2 count2 own2 r2):=b2
 have hW1:=a2.lt
 have hw2:=b2.lt
 have z1:=a3.size
 have u2:=a3.and0 b3
 have hA:=(a2.upd0 b3).ldA (i:=0) (n:=6) (by simp[dlL])
 have hA:ldA 6 ⟨W.heap.size,0,none⟩ w2=some (dlC (set:Int) s need count own r):=hA
 obtain⟨s3,sl,w3,c1,c2,c3,c4,c5,c6,c7⟩:=K_wl hK (T.upd0 u2) hset (need:=need) (count:=count) (own:=own) (hs.upd0 u2) (hr.upd0 u2)
 obtain⟨w4,d1,d2,d3,d4⟩:=K_g z25 25 w3
 have hz:z25=(dlL 0 nilF 0 0 false nilF).toArray:=by kernel_rfl
 have d2:Bk 25 w4 w3.heap.size (dlL 0 nilF 0 0 false nilF):=by rw[hz]at d2;exact d2
 obtain⟨w5,e1,e2,e3⟩:=d2.stA (o:=0) (vs:=dlC (set:Int) s3 ((needD need:Nat):Int) ((cntD need count:Nat):Int) false r) (by simp[dlL,dlC]) (fun v hv=>by
  simp only[dlC,dlL,List.mem_cons,List.not_mem_nil,or_false]at hv
  rcases hv with rfl | rfl | rfl | rfl | rfl | rfl <;> rfl)
 have hz6:(dlC (set:Int) s3 ((needD need:Nat):Int) ((cntD need count:Nat):Int) false r).size=6:=rfl
 have u35:Upd none_ w3 w5:=d3.trans' e3 fun k hk e=>by omega
 have u25:=c2.and0 u35
 have u5:=u2.and0 u25
 have ba5:=(a2.upd0 b3).upd0 u25
 have bb5:=b2.upd0 u25
 have zz25:=u25.size
 obtain⟨s6,w6,f1,f2,f3,f4,f5⟩:=K_16l (K:=K) ba5 bb5 (by omega) (hs.upd0 u5) (hs2.upd0 u5)
 have ba6:=ba5.upd f4 (by omega)
 have hs6:BSrc w6 s l:=K_3r (hs.upd0 u5) f4 fun q hq hne e=>by have:=K_bu hs q hq hne;omega
 have z6:=f4.size
 obtain⟨s7,g1,g2,g3⟩:=K_oy hs6 64
 have g1:K_1b s 64=_:=g1
 have l7:s7.len=(l.take 64).length:=by rw[g2.len,K_0]
 obtain⟨s8,w8,L8,h1,h2,h3,h4⟩:=K_167 (K:=K) ba6 f1 hs6 (f2.src (K_14 _)) (fun q hq e=>by have:=f3 q.block (by simp[Sl.blk,hq]);omega)
 have u58:Upd (· =w1.heap.size) w5 w8:=f4.trans' h3 fun _ _ e=>e
 have u8:Upd none_ W w8:=u5.trans' u58 fun k hk e=>by omega
 have z8:=h3.size
 have hB:=h1.ldA (i:=0) (n:=6) (by simp[dlL])
 have hB:ldA 6 ⟨w1.heap.size,0,none⟩ w8=some (dlC (set2:Int) s8 need2 count2 own2 r2):=hB
 obtain⟨s9,sm,w9,i1,i2,i3,i4,i5,i6,i7⟩:=K_wl hK (T.upd0 u8) hset2 (need:=need2) (count:=count2) (own:=own2) h2 (hr2.upd0 u8)
 obtain⟨w10,j1,j2,j3,j4⟩:=K_g z25 25 w9
 have j2:Bk 25 w10 w9.heap.size (dlL 0 nilF 0 0 false nilF):=by rw[hz]at j2;exact j2
 obtain⟨w11,k1,k2,k3⟩:=j2.stA (o:=0) (vs:=dlC (set2:Int) s9 ((needD need2:Nat):Int) ((cntD need2 count2:Nat):Int) false r2) (by simp[dlL,dlC]) (fun v hv=>by
  simp only[dlC,dlL,List.mem_cons,List.not_mem_nil,or_false]at hv
  rcases hv with rfl | rfl | rfl | rfl | rfl | rfl <;> rfl)
 have hz62:(dlC (set2:Int) s9 ((needD need2:Nat):Int) ((cntD need2 count2:Nat):Int) false r2).size=6:=rfl
 have u911:Upd none_ w9 w11:=j3.trans' k3 fun k hk e=>by omega
 have u811:=i2.and0 u911
 have u11:=u8.and0 u811
 obtain⟨w12,m1,m2⟩:=K_15k hK (T.upd0 u11)
 have u12:=u11.and0 m2
 have hs22:K_4r K true true w11=some ((false,()),w12):=by
  unfold K_4r
  rw[m1,bnd_ok]
  dsimp only
  rw[if_neg (by decide),if_neg (by decide)];rfl
 have D:Dealt C S set (needD need) (secD l).length (secD l) (rowsD C S set l L need):=K_rc C S hset (K_di need) (K_rd l)
 have D2:Dealt C S set2 (needD need2) (secD L8).length (secD L8) (rowsD C S set2 L8 L2 need2):=K_rc C S hset2 (K_di need2) (K_rd L8)
 have hslb:∀ k,sl.blk=some k→w2.heap.size≤k:=c6
 have hsl12:OwnS 9 w12 sl (tx (dealN set (needD need) (secD l).length (rowsD C S set l L need) (cntD need count))):=(((c4.upd0 u35).upd u58 fun k hk e=>by have:=hslb k hk;omega).upd0 u811).upd0 m2
 have hsm12:OwnS 9 w12 sm (tx (dealN set2 (needD need2) (secD L8).length (rowsD C S set2 L8 L2 need2) (cntD need2 count2))):=(i4.upd0 u911).upd0 m2
 have hc1:=K_uc need count
 have hc2:=K_uc need2 count2
 have hn1:=K_di need
 have hn2:=K_di need2
 obtain⟨p,x,w13,lx,n1,n2,n3,n4,n5,n6,n7,n8,n9,n10⟩:=K_ws hK D (n:=cntD need count) (by omega) hsl12 i
 obtain⟨q,y,w14,ly,o1,o2,o3,o4,o5,o6,o7,o8,o9,o10⟩:=K_ws hK D2 (n:=cntD need2 count2) (by omega) (hsm12.upd0 n8) k
 have u14:=(u12.and0 n8).and0 o8
 have hx14:=n7.upd0 o8
 have hxl:x.len=lx.length:=by rw[n7.len,K_0]
 have hyl:y.len=ly.length:=by rw[o7.len,K_0]
 unfold K_8z
 rw[a1,bnd_ok,b1,bnd_ok,hA,J_bs,c1,bnd_ok,d1,bnd_ok]
 dsimp only
 rw[if_pos hz6,e1,J_bs]
 apply f5
 rw[(K_37 ba6).2.1,J_bs,g1,J_bs]
 dsimp only
 rw[l7,h4,bnd_ok,hB,J_bs,i1,bnd_ok,j1,bnd_ok]
 dsimp only
 rw[if_pos hz62,k1,J_bs,hs22,bnd_ok]
 dsimp only
 rw[if_neg (by decide),if_pos n2,n1,J_bs,n3,if_pos n4,J_tn,Nat.mul_one,n5,J_bs,n6,bnd_ok,if_pos o2,o1,J_bs,o3,if_pos o4,J_tn,Nat.mul_one,o5,J_bs,o6,bnd_ok]
 dsimp only
 by_cases c:lx.length=ly.length
 ·have h3':K_24 K x true y true w14=some ((false,()),w14):=by
   unfold K_24
   rw[if_neg (by decide),if_neg (by decide),hxl,hyl,c]
   simp
  obtain⟨w15,r1,r2⟩:=K_12e (K:=K) c (by omega) lx.length 0 K w14 0 (by omega) (by omega) (Nat.le_refl _) (hx14.src (K_14 _)) (o7.src (K_14 _))
  rw[List.drop_zero,List.drop_zero,Nat.zero_add]at r1
  have r1:K_11 K K x y 0 0 w14=_:=r1
  have u15:=u14.and0 r2
  rw[h3',bnd_ok]
  dsimp only
  rw[if_neg (by decide),r1,bnd_ok]
  dsimp only
  by_cases c0:far lx ly=0
  ·rw[c0,if_pos (by rfl)]
   exact kT_ok u15
  ·have h5:5≤far lx ly:=by
    rcases Nat.lt_or_ge (far lx ly) 5 with h | h
    ·have e:=K_uy c (by omega) n10 o10 (by omega)
     rw[e,K_b2]at c0
     exact absurd rfl c0
    ·exact h
   rw[if_neg (by rw[beq_iff_eq];omega),decide_eq_true (by omega)]
   exact kT_ok u15
 ·have h3':K_24 K x true y true w14=some ((true,()),w14):=by
   unfold K_24
   rw[if_neg (by decide),if_neg (by decide),hxl,hyl]
   congr 3
   rw[bne_iff_ne]
   omega
  have h4':K_4m K false true true w14=some ((true,()),w14):=by
   unfold K_4m
   rw[if_pos rfl]
  rw[h3',bnd_ok]
  dsimp only
  rw[if_pos rfl,h4',bnd_ok]
  exact kT_ok u14
end Go.Sh
