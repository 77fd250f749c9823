/- Texts of this claim, put together: EscLh, EscLi -/
import Derived.Test.YteomkfcfhlljkaaDoorAllLawimahea
set_option linter.unusedVariables false
set_option maxRecDepth 100000
namespace Go.Sh
open Go.Fw Go.Gf Go.Sha Go.RowKit Go.Proofs.Tryd Go.Deep Go.ChangeShapes Go.WideShapes
def preL(l:List F)(j:Nat):List Nat:=if j=0 then [] else lets (l.take (2*j)) ++ [32]
def postL(l:List F)(j:Nat):List Nat:=if (l.drop (2*j+2)).length=0 then [] else 32 :: lets (l.drop (2*j+2))
theorem K_ws:∀ (l:List F) (m:Nat),l.length=2*m→∀ j,j<m→(lets l).take (6*j)=preL l j∧(lets l).drop (6*j+5)=postL l j
 | [],m,h,j,hj=>by simp at h;omega
 | [a],m,h,j,hj=>by simp at h;omega
 | a :: b :: [],m,h,j,hj=>by
  have:j=0:=by simp at h;omega
  subst this
  exact⟨rfl,rfl⟩
 | a :: b :: c :: r,m,h,0,hj=>by
  refine⟨rfl,?_⟩
  show (fiveN (a.n*256+b.n) ++ 32 :: lets (c :: r)).drop 5=_
  rw[List.drop_left' (K_22 _)];rfl
 | a :: b :: c :: r,m,h,j+1,hj=>by
  obtain⟨i1,i2⟩:=K_ws (c :: r) (m - 1) (by simp at h ⊢;omega) j (by omega)
  have e:lets (a :: b :: c :: r)=fiveN (a.n*256+b.n) ++ 32 :: lets (c :: r):=rfl
  constructor
  ·rw[e,show 6*(j+1)=(fiveN (a.n*256+b.n)).length+(6*j+1) by rw[K_22];omega,List.take_length_add_append,List.take_succ_cons,i1]
   have hR:preL (a :: b :: c :: r) (j+1)=lets ((a :: b :: c :: r).take (2*(j+1))) ++ [32]:=if_neg (by omega)
   rw[hR,show 2*(j+1)=2*j+1+1 by omega,List.take_succ_cons,List.take_succ_cons]
   by_cases hj0:j=0
   ·subst hj0
    rfl
   ·have hL:preL (c :: r) j=lets ((c :: r).take (2*j)) ++ [32]:=if_neg hj0
    rw[hL]
    have h2:∃ y ys,(c :: r).take (2*j)=y :: ys:=by
     obtain⟨k,hk⟩:∃ k,2*j=k+1:=⟨2*j - 1,by omega⟩
     rw[hk];exact⟨_,_,rfl⟩
    obtain⟨y,ys,hy⟩:=h2
    rw[hy]
    have e2:lets (a :: b :: y :: ys)=fiveN (a.n*256+b.n) ++ 32 :: lets (y :: ys):=rfl
    rw[e2]
    simp
  ·rw[e,show 6*(j+1)+5=(fiveN (a.n*256+b.n)).length+(6*j+5+1) by rw[K_22];omega,List.drop_length_add_append,List.drop_succ_cons,i2]
   have hd:(a :: b :: c :: r).drop (2*(j+1)+2)=(c :: r).drop (2*j+2):=by
    rw[show 2*(j+1)+2=(2*j+2)+1+1 by omega];rfl
   unfold postL
   rw[hd]
theorem K_xx:∀ (ws wd cs:List Nat) (O:List F),(∀ x∈ws,gapB x=false)→rdP (ws ++ cs) wd O=rdP cs (wd ++ ws.map lowN) O
 | [],wd,cs,O,_=>by rw[List.nil_append,List.map_nil,List.append_nil]
 | x :: ws,wd,cs,O,h=>by
  have h1:=h x (List.mem_cons_self ..)
  show (if gapB x=true then(endW wd O).bind fun O'=>rdP (ws ++ cs) [] O' else rdP (ws ++ cs) (wd ++ [lowN x]) O)=_
  rw[h1,if_neg (by decide),K_xx ws (wd ++ [lowN x]) cs O (fun y hy=>h y (List.mem_cons_of_mem _ hy)),List.append_assoc];rfl
theorem K_r3:∀ (l:List F) (m:Nat) (cs:List Nat) (O:List F),l.length=2*m→0<m→rdP (lets l ++ 32 :: cs) [] O=rdP cs [] (O ++ l)
 | [],m,cs,O,h,h0=>by simp at h;omega
 | [a],m,cs,O,h,_=>by simp at h;omega
 | a :: b :: [],m,cs,O,h,_=>by
  have ha:=a.lt
  have hb:=b.lt
  have hf:=K_bx (v:=a.n*256+b.n) (by omega)
  show rdP (fiveN (a.n*256+b.n) ++ 32 :: cs) [] O=_
  rw[K_b7 _ _ _ _ fun x hx=>(hf x hx).2,List.nil_append]
  show (if gapB 32=true then(endW (fiveN (a.n*256+b.n)) O).bind fun O'=>rdP cs [] O' else _)=_
  rw[if_pos (by decide)]
  unfold endW
  rw[if_neg (by unfold fiveN;simp),if_neg (by rw[K_22];simp),K_ie];rfl
 | a :: b :: c :: r,m,cs,O,h,_=>by
  have ha:=a.lt
  have hb:=b.lt
  have hf:=K_bx (v:=a.n*256+b.n) (by omega)
  show rdP ((fiveN (a.n*256+b.n) ++ 32 :: lets (c :: r)) ++ 32 :: cs) [] O=_
  rw[List.append_assoc,K_b7 _ _ _ _ fun x hx=>(hf x hx).2,List.nil_append]
  show (if gapB 32=true then(endW (fiveN (a.n*256+b.n)) O).bind fun O'=>rdP (lets (c :: r) ++ 32 :: cs) [] O' else _)=_
  rw[if_pos (by decide)]
  have he:endW (fiveN (a.n*256+b.n)) O=some (O ++ [a,b]):=by
   unfold endW
   rw[if_neg (by unfold fiveN;simp),if_neg (by rw[K_22];simp),K_ie]
  rw[he,J_bs,K_r3 (c :: r) (m - 1) cs (O ++ [a,b]) (by simp at h ⊢;omega) (by simp at h;omega),List.append_assoc];rfl
def wordX(l:List F)(j:Nat)(ws:List Nat):List F:=hurtL l (2*j) (l.getD (2*j) 0+(worthB (ws.map lowN)).getD 0 0) (2*j+1) (l.getD (2*j+1) 0+(worthB (ws.map lowN)).getD 1 0)
theorem set2(A:List F)(u v:F)(B:List F)(x y:F):((A ++ u :: v :: B).set A.length x).set (A.length+1) y=A ++ [x,y] ++ B:=by
 simp[List.set_append]
theorem K_14s{l:List F}{m j:Nat}(hl:l.length=2*m)(hj:j<m)(ws:List Nat):wordX l j ws=l.take (2*j) ++ worthB (ws.map lowN) ++ l.drop (2*j+2):=by
 unfold wordX hurtL
 rw[K_ds,K_ds,F.add_cancel]
 have hg:(l.set (2*j) ((worthB (ws.map lowN)).getD 0 0)).getD (2*j+1) 0=l.getD (2*j+1) 0:=by
  rw[J_gd,List.getElem?_set_ne (by omega),J_gd]
 rw[hg,F.add_cancel]
 obtain⟨x,y,hxy⟩:∃ x y,worthB (ws.map lowN)=[x,y]:=⟨_,_,rfl⟩
 rw[hxy]
 show (l.set (2*j) x).set (2*j+1) y=_
 have hA:(l.take (2*j)).length=2*j:=by rw[List.length_take];omega
 have hd:l=l.take (2*j) ++ l.getD (2*j) 0 :: l.getD (2*j+1) 0 :: l.drop (2*j+2):=by
  conv=>lhs;rw[←List.take_append_drop (2*j) l,K_84 0 (show 2*j<l.length by omega),K_84 0 (show 2*j+1<l.length by omega)]
 generalize l.take (2*j)=A at hA hd ⊢
 generalize l.drop (2*j+2)=B at hd ⊢
 rw[hd,←hA,set2]
theorem K_14p{l:List F}{m j:Nat}(hl:l.length=2*m)(hj:j<m){ws:List Nat}(h5:ws.length=5)(hg:∀ x∈ws,gapB x=false):
  rdP ((lets l).take (6*j) ++ ws ++ (lets l).drop (6*j+5)) [] []=some (wordX l j ws):=by
 obtain⟨h1,h2⟩:=K_ws l m hl j hj
 rw[h1,h2,K_14s hl hj]
 have he:∀ O,endW (ws.map lowN) O=some (O ++ worthB (ws.map lowN)):=fun O=>by
  unfold endW
  rw[if_neg (fun e=>by have:=congrArg List.length e;rw[List.length_map,h5]at this;simp at this),if_neg (by rw[List.length_map,h5];simp)]
 have post:∀ O,rdP (ws ++ postL l j) [] O=some (O ++ worthB (ws.map lowN) ++ l.drop (2*j+2)):=fun O=>by
  rw[K_xx ws [] _ O hg,List.nil_append]
  unfold postL
  by_cases c:(l.drop (2*j+2)).length=0
  ·rw[if_pos c,List.eq_nil_of_length_eq_zero c,List.append_nil]
   exact he O
  ·rw[if_neg c]
   show (if gapB 32=true then(endW (ws.map lowN) O).bind fun O'=>rdP (lets (l.drop (2*j+2))) [] O' else _)=_
   rw[if_pos (by decide),he,J_bs,K_s4 _ (m - (j+1)) _ (by rw[List.length_drop];omega)]
 rw[List.append_assoc]
 unfold preL
 by_cases c:j=0
 ·subst c
  rw[if_pos rfl,List.nil_append,post];rfl
 ·rw[if_neg c,List.append_assoc]
  show rdP (lets (l.take (2*j)) ++ 32 :: (ws ++ postL l j)) [] []=_
  rw[K_r3 _ j _ _ (by rw[List.length_take];omega) (by omega),post];rfl
theorem K_12o{set need idx size:Nat}{vals:List F}(K:OkL set need idx size vals){j m:Nat}(hm:(lineL set need idx size vals).length=2*m)(hj:j<m){ws:List Nat}(h5:ws.length=5)(hg:∀ x∈ws,gapB x=false):
  ∃ n,n≤2∧mendR ((lets (lineL set need idx size vals)).take (6*j) ++ ws ++ (lets (lineL set need idx size vals)).drop (6*j+5))=(0,some (lineL set need idx size vals,n)):=by
 obtain⟨m',h1,h2,h3⟩:=K_cm K
 have hmm:m'=m:=by omega
 subst hmm
 generalize hl:lineL set need idx size vals=l at*
 have hr:Right l:=by rw[←hl];exact K_e3 _ _ _ _ _
 have hf:fitB l=true:=by rw[←hl];exact K_ih K
 have hlen:=K_dv l m' hm (by omega)
 have hn:Near (wordX l j ws) l:=K_vg (by omega) (by omega) hr _ _
 have hwl:(wordX l j ws).length=l.length:=K_9d ..
 refine⟨far (wordX l j ws) l,hn.2.2,?_⟩
 unfold mendR
 rw[K_14p hm hj h5 hg,if_neg (by rw[List.length_append,List.length_append,List.length_take,List.length_drop];omega)]
 show (if (wordX l j ws).length<14∨78<(wordX l j ws).length then _ else match Gf.repP (wordX l j ws) with | none=>_ | some r=>if fitB r.1=true then((0:Int),some r) else(113,none))=_
 rw[if_neg (by omega),(K_im (by omega)).1 l hn]
 show (if fitB l=true then((0:Int),some (l,far (wordX l j ws) l)) else(113,none))=_
 rw[if_pos hf]
theorem K_13o(x y:F)(l m:List F):far (x :: l) (y :: m)=(if x=y then 0 else 1)+far l m:=by
 unfold far
 show (supp ((x+y) :: xorR l m)).length=_
 rw[K_bz]
 by_cases h:x=y
 ·rw[if_pos (by rw[h,F.add_self]),if_pos h,Nat.zero_add]
 ·rw[if_neg (F.add_ne_zero h),if_neg h,List.length_cons];omega
theorem K_yt{K:Nat}{a b:Sl}{l m:List F}(hlm:l.length=m.length)(hl:l.length≤1000000){word line:ByteArray}{p:Addr}{n:Int}:
  ∀ (d i f:Nat) (w:World) (x:Nat),i+d=l.length→d<f→x≤i→BSrc w a l→BSrc w b m→∃ w',K_o K f word p line n a b (x:Int) (i:Int) w=some ((((x+far (l.drop i) (m.drop i):Nat):Int),()),w')∧Upd none_ w w':=by
 intro d
 induction d with
 | zero=>
  intro i f w x hi hf hx ha hb
  obtain⟨f,rfl⟩:∃ q,f=q+1:=⟨f - 1,by omega⟩
  have hal:a.len=l.length:=by rw[ha.len,K_0]
  refine⟨w,?_,Upd.refl _ _⟩
  rw[List.drop_eq_nil_of_le (by omega),List.drop_eq_nil_of_le (by omega)]
  show K_z K (K_o K f) word p line n a b (x:Int) (i:Int) w=_
  unfold K_z
  rw[if_neg (by simp only[decide_eq_true_eq];omega)];rfl
 | succ d ih=>
  intro i f w x hi hf hx ha hb
  obtain⟨f,rfl⟩:∃ q,f=q+1:=⟨f - 1,by omega⟩
  have hal:a.len=l.length:=by rw[ha.len,K_0]
  have hbl:b.len=m.length:=by rw[hb.len,K_0]
  have h1:i<l.length:=by omega
  have h2:i<m.length:=by omega
  have ud:=(Upd.refl none_ w).drew
  have e3:IntKind.i64.wrap ((i:Int)+1)=((i+1:Nat):Int):=by rw[w64 (by omega) (by omega)];rfl
  have e4:IntKind.i64.wrap ((x:Int)+1)=((x+1:Nat):Int):=by rw[w64 (by omega) (by omega)];rfl
  obtain⟨p1,q1,q2⟩:=K_29 (ha.upd0 ud) h1
  obtain⟨p2,r1,r2⟩:=K_29 (hb.upd0 ud) h2
  have c1:(0:Int)≤(i:Int)∧(i:Int)<((a.len:Nat):Int):=by omega
  have c2:(0:Int)≤(i:Int)∧(i:Int)<((b.len:Nat):Int):=by omega
  rw[List.drop_eq_getElem_cons h1,List.drop_eq_getElem_cons h2,K_13o]
  by_cases c:l[i]=m[i]
  ·obtain⟨w',k1,k2⟩:=ih (i+1) f w.drew x (by omega) (by omega) (by omega) (ha.upd0 ud) (hb.upd0 ud)
   refine⟨w',?_,k2.predrew⟩
   show K_z K (K_o K f) word p line n a b (x:Int) (i:Int) w=_
   unfold K_z
   rw[if_pos (decide_eq_true (by omega)),q1,J_bs,if_pos c1,r1,J_bs,if_pos c2,J_tn,Nat.mul_one,q2,J_bs,r2,J_bs,if_neg (by rw[c];simp),e3,k1,if_pos c,Nat.zero_add]
  ·obtain⟨w',k1,k2⟩:=ih (i+1) f w.drew (x+1) (by omega) (by omega) (by omega) (ha.upd0 ud) (hb.upd0 ud)
   refine⟨w',?_,k2.predrew⟩
   show K_z K (K_o K f) word p line n a b (x:Int) (i:Int) w=_
   unfold K_z
   rw[if_pos (decide_eq_true (by omega)),q1,J_bs,if_pos c1,r1,J_bs,if_pos c2,J_tn,Nat.mul_one,q2,J_bs,r2,J_bs,if_pos (by rw[bne_iff_ne];exact fun e=>c (K_y8 e)),e4,e3,k1,if_neg c,Nat.add_assoc]
theorem K_12p{K:Nat}{t line:ByteArray}{T:List Nat}(hT:IsText t T)(hl:T.length≤9223372036854775807){p:Addr}{w:World}:
  ∀ (d i f:Nat),i+d=T.length→d<f→K_x K f t p line (i:Int) w=some (if ∀ x∈T.drop i,gapB x=false then .norm () else .ret (true,()),w):=by
 have hsz:=hT.1
 intro d
 induction d with
 | zero=>
  intro i f hi hf
  obtain⟨f,rfl⟩:∃ q,f=q+1:=⟨f - 1,by omega⟩
  rw[List.drop_eq_nil_of_le (by omega),if_pos (fun x h=>by cases h)]
  show K_28 K (K_x K f) t p line (i:Int) w=_
  unfold K_28
  rw[if_neg (by simp only[decide_eq_true_eq];omega)]
 | succ d ih=>
  intro i f hi hf
  obtain⟨f,rfl⟩:∃ q,f=q+1:=⟨f - 1,by omega⟩
  have e3:IntKind.i64.wrap ((i:Int)+1)=((i+1:Nat):Int):=by rw[w64 (by omega) (by omega)];rfl
  have hil:i<T.length:=by omega
  obtain⟨b,b1,b2⟩:=hT.2 i hil
  have c0:(0:Int)≤(i:Int):=Int.natCast_nonneg _
  show K_28 K (K_x K f) t p line (i:Int) w=_
  unfold K_28
  rw[if_pos (decide_eq_true (by omega)),if_pos c0,J_tn,b1,J_bs,b2,K_84 0 hil]
  generalize T.getD i 0=c at b2 ⊢
  have hret:gapB c=true→¬∀ x∈c :: T.drop (i+1),gapB x=false:=fun h h2=>by have:=h2 c (List.mem_cons_self ..);rw[h]at this;cases this
  by_cases h1:c=32
  ·rw[if_pos (by rw[h1];rfl),if_neg (hret (by rw[h1];rfl))]
  ·rw[if_neg (by rw[beq_iff_eq];omega),if_pos c0,J_bs,b2]
   by_cases h2:c=9
   ·rw[if_pos (by rw[h2];rfl),if_neg (hret (by rw[h2];rfl))]
   ·rw[if_neg (by rw[beq_iff_eq];omega),if_pos c0,J_bs,b2]
    by_cases h3:c=10
    ·rw[if_pos (by rw[h3];rfl),if_neg (hret (by rw[h3];rfl))]
    ·rw[if_neg (by rw[beq_iff_eq];omega),if_pos c0,J_bs,b2]
     by_cases h4:c=13
     ·rw[if_pos (by rw[h4];rfl),if_neg (hret (by rw[h4];rfl))]
     ·rw[if_neg (by rw[beq_iff_eq];omega),if_pos c0,J_bs,b2]
      by_cases h5:c=45
      ·rw[if_pos (by rw[h5];rfl),if_neg (hret (by rw[h5];rfl))]
      ·rw[if_neg (by rw[beq_iff_eq];omega),e3,ih (i+1) f (by omega) (by omega)]
       have hg:gapB c=false:=by unfold gapB;simp[h1,h2,h3,h4,h5]
       by_cases q:∀ x∈T.drop (i+1),gapB x=false
       ·rw[if_pos q,if_pos (fun x hx=>(List.mem_cons.1 hx).elim (fun e=>by rw[e];exact hg) (q x))]
       ·rw[if_neg q,if_neg (fun h=>q fun x hx=>h x (List.mem_cons_of_mem _ hx))]
theorem K_12b(w:World)(ox oy:Operand)(s n i z:Nat):bop prog .neq 84 ox oy (.agg (shL s n i z).toArray) (.agg (shL s n i z).toArray) w=some (.bool false,w):=by
 have hf:=fields84
 unfold fieldsB at hf
 rw[List.all_eq_true]at hf
 have h1:=K_wu (P:=prog) w 9998 (shL s n i z).toArray (prog.fieldsOf 84).toList (fun f h=>by
  have:=hf f h
  simp only[Bool.and_eq_true,bne_iff_ne,ne_eq]at this
  exact⟨this.1.1,this.1.2⟩) (fun f h=>by
  have:=hf f h
  simp only[Bool.and_eq_true,decide_eq_true_eq]at this
  have h4:=this.2
  match f.offset,h4 with
  | 0,_=>exact⟨_,_,rfl⟩
  | 1,_=>exact⟨_,_,rfl⟩
  | 2,_=>exact⟨_,_,rfl⟩
  | 3,_=>exact⟨_,_,rfl⟩)
 have h2:=run_equalIn_struct (P:=prog) w 9999 84 (shL s n i z).toArray (shL s n i z).toArray und84 stood84
 rw[h1]at h2
 unfold bop
 rw[Sem.run_bind,run_eqGuard_agg w .neq _ ox oy _ _ guard84,Result.andThen_ok,run_neq_struct,h2,Result.andThen_ok]
 rfl
def pkL(a i k by_ too:Int):List Value:=[.int .i64 a,.int .i64 i,.int .i64 k,.int .u8 by_,.int .u8 too]
theorem K_x7{e:TypeId}{a i k x y:Int}{w:World}{c:Nat}(b:Bk e w c (pkL a i k x y)):
  ldI .i64 ((⟨c,0,none⟩:Addr).add 0) w=some a∧ldI .i64 ((⟨c,0,none⟩:Addr).add 1) w=some i∧ldI .i64 ((⟨c,0,none⟩:Addr).add 2) w=some k∧ldI .u8 ((⟨c,0,none⟩:Addr).add 3) w=some x∧ldI .u8 ((⟨c,0,none⟩:Addr).add 4) w=some y:=by
 rw[add_lit,add_lit,add_lit,add_lit,add_lit]
 exact⟨b.ldI rfl,b.ldI rfl,b.ldI rfl,b.ldI rfl,b.ldI rfl⟩
theorem c_u8:prog.cellsOf 5=1:=by kernel_rfl
theorem K_yp{H:Type}{enc:TypeId×Value→H}{W:World}{x:DataW H×List MemPlace}{fuel:Nat}{cs:List Value}(hl:cs.length=5)(hf:DataW.trod enc prog W 0 (fun _=>true) true fuel 59 cs=some x):
  ∃ (a i k:Int) (x y:F),cs=pkL a i k (bF x) (bF y):=by
 have hu:=underlying59
 obtain⟨xs,m,_,hx,hcl,hxl,hfs⟩:=DataW.trod_struct hu hf
 obtain⟨c0,c1,c2,c3,c4,hc⟩:∃ a b c d e,cs=[a,b,c,d,e]:=by
  match hm:cs,hl with
  | [a,b,c,d,e],_=>exact⟨a,b,c,d,e,rfl⟩
 have hx5:xs.length=5:=hxl
 obtain⟨y0,y1,y2,y3,y4,hy⟩:∃ a b c d e,xs=[a,b,c,d,e]:=by
  match hm:xs,hx5 with
  | [a,b,c,d,e],_=>exact⟨a,b,c,d,e,rfl⟩
 subst hy
 rw[hc]at hfs
 have f0:=hfs 0 _ rfl
 have f1:=hfs 1 _ rfl
 have f2:=hfs 2 _ rfl
 have f3:=hfs 3 _ rfl
 have f4:=hfs 4 _ rfl
 simp only[c_int,c_u8,List.drop_zero,List.drop_succ_cons,List.take_succ_cons,List.take_zero,List.getElem?_cons_zero,List.getElem?_cons_succ]at f0 f1 f2 f3 f4
 obtain⟨n0,e0,_,w0⟩:=DataW.trod_int underlying3 f0
 obtain⟨n1,e1,_,w1⟩:=DataW.trod_int underlying3 f1
 obtain⟨n2,e2,_,w2⟩:=DataW.trod_int underlying3 f2
 obtain⟨n3,e3,_,w3⟩:=DataW.trod_int underlying5 f3
 obtain⟨n4,e4,_,w4⟩:=DataW.trod_int underlying5 f4
 refine⟨n0,n1,n2,toF n3,toF n4,?_⟩
 rw[K_pp (wf_u8 w3),K_pp (wf_u8 w4),hc,(List.cons.inj e0).1,(List.cons.inj e1).1,(List.cons.inj e2).1,(List.cons.inj e3).1,(List.cons.inj e4).1]
 rfl
set_option maxRecDepth 100000 in
theorem K_13a{H:Type}{enc:TypeId×Value→H}{W:World}{d:DataW H}{p:List MemPlace}{v:Value}{base:Nat}(hv:Value.okWide prog W .any base 59 v)(h:DataW.Trod enc prog W 0 (fun _=>true) true 59 v d p):
  ∃ (a i k:Int) (x y:F),v= .agg (pkL a i k (bF x) (bF y)).toArray:=by
 have hu:=underlying59
 obtain⟨cs,hcv,hcs⟩:=okWide_struct (P:=prog) (t:=59) hu hv
 subst hcv
 obtain⟨fuel,hf⟩:=h
 have hsz:prog.cellsOf 59=5:=by kernel_rfl
 rw[hsz]at hcs
 have hcc:(Value.agg cs).cells.toList=cs.toList:=rfl
 rw[hcc]at hf
 obtain⟨a,i,k,x,y,e⟩:=K_yp (by simpa using hcs) hf
 exact⟨a,i,k,x,y,by congr 1;apply Array.ext';exact e⟩
end Go.Sh

namespace Go.Sh
open Go.Fw Go.Gf Go.Sha Go.RowKit Go.Proofs.Tryd
theorem K_eo(t:ByteArray):∀ c∈natsOf t,c<256:=fun c hc=>by obtain⟨u,_,rfl⟩:=List.mem_map.1 hc;exact u.toNat_lt
theorem K_ty(t:ByteArray):(natsOf t).length=t.size:=by unfold natsOf;rw[List.length_map,Array.length_toList];rfl
theorem K_n5(a b:ByteArray):natsOf (a ++ b)=natsOf a ++ natsOf b:=by unfold natsOf;rw[ByteArray.data_append,Array.toList_append,List.map_append]
theorem K_xi(t:ByteArray)(n:Nat):natsOf (t.extract 0 n)=(natsOf t).take n:=by
 unfold natsOf
 rw[ByteArray.data_extract,Array.toList_extract,List.extract_eq_take_drop,List.drop_zero,Nat.sub_zero,List.map_take]
theorem K_z4(t:ByteArray)(n:Nat):natsOf (t.extract n t.size)=(natsOf t).drop n:=by
 unfold natsOf
 rw[ByteArray.data_extract,Array.toList_extract,List.extract_eq_take_drop,List.take_of_length_le (by rw[List.length_drop,Array.length_toList];exact Nat.le_refl _),List.map_drop]
theorem K_10n{set need idx size:Nat}{vals:List F}(K:OkL set need idx size vals):lineT (lineL set need idx size vals) (bAt (lineL set need idx size vals) 3) (valsP (lineL set need idx size vals))=textOf (lineL set need idx size vals):=by
 obtain⟨h0,h2,h3,h4⟩:=K_3l K
 unfold lineT
 rw[K_lq K,h0,h2,h3,h4]
theorem K_11i{set need idx size:Nat}{vals:List F}(K:OkL set need idx size vals)(n:Nat):mText (some (lineL set need idx size vals,n))=textOf (lineL set need idx size vals):=K_10n K
theorem K_ti{K:Nat}(hK:18446744073709551616≤K){C S:List Int}{W:World}(T:Tabs W C S){set:Nat}(hset:set<65536){s r:Sl}{need count:Int}{own:Bool}{ss rs:List Int}(P:BytesIn W s ss)(Q:BytesIn W r rs)(pa pi pk:Int)(px py:F)(word:ByteArray)(hwl:word.size≤maxLen):
  ∃ w2,K_4u K (dlC (set:Int) s need count own r) (pkL pa pi pk (bF px) (bF py)).toArray word W=some ((true,()),w2)∧Upd none_ W w2:=by
 obtain⟨l,rfl⟩:=K_xv P.inn
 obtain⟨L,rfl⟩:=K_xv Q.inn
 have hs:BSrc W s l:=P.src
 have hr:BSrc W r L:=Q.src
 obtain⟨w1,a1,a2,a3,a4⟩:=K_c (dlC (set:Int) s need count own r) 25 W
 have a2:Bk 25 w1 W.heap.size (dlL (set:Int) s need count own r):=a2
 obtain⟨w2,b1,b2,b3,b4⟩:=K_c (pkL pa pi pk (bF px) (bF py)).toArray 59 w1
 have b2:Bk 59 w2 w1.heap.size (pkL pa pi pk (bF px) (bF py)):=b2
 have u2:=a3.and0 b3
 have hA:=(a2.upd0 b3).ldA (i:=0) (n:=6) (by simp[dlL])
 have hA:ldA 6 ⟨W.heap.size,0,none⟩ w2=some (dlC (set:Int) s need count own r):=hA
 obtain⟨s3,sl,w3,c1,c2,c3,c4,c5,c6,c7⟩:=K_14z hK (T.upd0 u2) hset (need:=need) (count:=count) (own:=own) (hs.upd0 u2) (hr.upd0 u2)
 obtain⟨w4,d1,d2,d3,d4⟩:=K_c z25 25 w3
 have hz:z25=(dlL 0 nilF 0 0 false nilF).toArray:=by kernel_rfl
 have d2:Bk 25 w4 w3.heap.size (dlL 0 nilF 0 0 false nilF):=by rw[hz]at d2;exact d2
 obtain⟨w5,e1,e2,e3⟩:=d2.stA (o:=0) (vs:=dlC (set:Int) s3 ((needD need:Nat):Int) ((cntD need count:Nat):Int) false r) (by simp[dlL,dlC]) (fun v hv=>by
  simp only[dlC,dlL,List.mem_cons,List.not_mem_nil,or_false]at hv
  rcases hv with rfl | rfl | rfl | rfl | rfl | rfl <;> rfl)
 have hz6:(dlC (set:Int) s3 ((needD need:Nat):Int) ((cntD need count:Nat):Int) false r).size=6:=rfl
 have u35:Upd none_ w3 w5:=d3.trans' e3 fun k hk e=>by omega
 have u5:=(u2.and0 c2).and0 u35
 obtain⟨w6,f1,f2⟩:=K_16z hK (T.upd0 u5)
 have u6:=u5.and0 f2
 have hs0:K_3e K true w5=some ((false,()),w6):=by
  unfold K_3e
  rw[f1,bnd_ok]
  dsimp only
  rw[if_neg (by decide)];rfl
 have hp6:=b2.upd0 ((c2.and0 u35).and0 f2)
 obtain⟨p0,p1,p2,p3,p4⟩:=K_x7 hp6
 have hsec:=K_x0 l
 have hneed:=K_ri need
 have hcnt:=K_10a need count
 have D:Dealt C S set (needD need) (secD l).length (secD l) (rowsD C S set l L need):=K_x5 C S hset hneed hsec
 have hsll:sl.len=cntD need count:=by rw[c4.len,K_4s];exact K_7b _ _ _ _ _
 have hcpos:0<cntD need count:=by omega
 have hai:=K_9c pa hcpos
 have hsl6:=((c4.upd0 u35).upd0 f2).src (K_kh _)
 obtain⟨q,q1,q2⟩:=tx_at hsl6 (i:=idxU pa (cntD need count)) (by unfold textsD;rw[K_7b];exact hai)
 have hx:1≤idxU pa (cntD need count)+1∧idxU pa (cntD need count)+1≤255:=by omega
 have KL:=D.ok hx
 have htx:(textsD C S set l L need count)[idxU pa (cntD need count)]'(by unfold textsD;rw[K_7b];exact hai)=textOf (lineX set (needD need) (secD l).length (rowsD C S set l L need) (idxU pa (cntD need count)+1)):=by
  have:=K_138 (set:=set) (need:=needD need) (size:=(secD l).length) (rows:=rowsD C S set l L need) hai
  rw[J_gd,J_ge (by rw[K_7b];exact hai)]at this
  exact this
 rw[htx]at q2
 unfold lineX at q2
 generalize rowsD C S set l L need=rows at q2 KL D
 generalize valsAt rows (b8 (idxU pa (cntD need count)+1))=vals at q2 KL
 generalize hsz:(secD l).length=size at q2 KL D hsec
 generalize hxx:idxU pa (cntD need count)+1=x at q2 KL hx
 obtain⟨m,hm,hm1,hm2⟩:=K_cm KL
 have hst':=K_11i KL
 have hmend0:=K_12s KL
 have hword:=fun(j:Nat) (ws:List Nat) (hj:j<m) (h5:ws.length=5) (hg:∀ x∈ws,gapB x=false)=>K_12o KL hm hj h5 hg
 have hmh:=fun(i k:Nat) (hi:i<(lineL set (needD need) x size vals).length) (hk:k<(lineL set (needD need) x size vals).length) (a b:F)=>K_13b KL hi hk a b
 generalize hline:lineL set (needD need) x size vals=line at*
 have hlpos:0<line.length:=by omega
 obtain⟨w7,g1,g2⟩:=K_16q hK w6 hm (by omega) (by omega) pi pk px py
 have hii:=K_9c pi hlpos
 have hkk:=K_9c pk hlpos
 have hmh:=hmh _ _ hii hkk px py
 have hhl:=K_9d line (idxU pi line.length) px (idxU pk line.length) py
 generalize hhurt:hurtL line (idxU pi line.length) px (idxU pk line.length) py=hurt at g1 hmh hhl
 obtain⟨w8,h1,h2⟩:=K_v1 hK w7 (K_c3 (textOf hurt)) (K_eo _)
 have hmh':mendR ((textOf hurt).data.toList.map UInt8.toNat)=(0,some (line,far hurt line)):=hmh
 rw[hmh']at h1
 have h1:K_1p K (textOf hurt) w7=some ((mText (some (line,far hurt line)),((far hurt line:Nat):Int),0,()),w8):=h1
 rw[hst']at h1
 obtain⟨w9,i1,i2⟩:=K_zk hK w8 (K_c3 (textOf hurt)) (K_eo _)
 rw[hmh']at i1
 have i1:K_4h K (textOf hurt) w8=some (((shL (setN line) (bAt line 2) (bAt line 3) (bAt line 4)).toArray,0,()),w9):=i1
 obtain⟨w10,j1,j2,j3,j4⟩:=K_c z84 84 w9
 have j2:Bk 84 w10 w9.heap.size (shL 0 0 0 0):=by rw[K_x6]at j2;exact j2
 obtain⟨w11,k1,k2,k3⟩:=j2.stA (o:=0) (vs:=(shL (setN line) (bAt line 2) (bAt line 3) (bAt line 4)).toArray) (by simp[shL]) (fun v hv=>K_jx _ _ _ _ v hv)
 have k2:Bk 84 w11 w9.heap.size (shL (setN line) (bAt line 2) (bAt line 3) (bAt line 4)):=k2
 have hz4:(shL (setN line) (bAt line 2) (bAt line 3) (bAt line 4)).toArray.size=4:=rfl
 have hm0:mendR ((textOf line).data.toList.map UInt8.toNat)=(0,some (line,0)):=hmend0
 obtain⟨w12,m1,m2⟩:=K_zk hK w11 (K_c3 (textOf line)) (K_eo _)
 rw[hm0]at m1
 have m1:K_4h K (textOf line) w11=some (((shL (setN line) (bAt line 2) (bAt line 3) (bAt line 4)).toArray,0,()),w12):=m1
 obtain⟨w13,n1,n2,n3,n4⟩:=K_c z84 84 w12
 have n2:Bk 84 w13 w12.heap.size (shL 0 0 0 0):=by rw[K_x6]at n2;exact n2
 obtain⟨w14,o1,o2,o3⟩:=n2.stA (o:=0) (vs:=(shL (setN line) (bAt line 2) (bAt line 3) (bAt line 4)).toArray) (by simp[shL]) (fun v hv=>K_jx _ _ _ _ v hv)
 have o2:Bk 84 w14 w12.heap.size (shL (setN line) (bAt line 2) (bAt line 3) (bAt line 4)):=o2
 obtain⟨w15,r1,r2⟩:=K_v1 hK w14 (K_c3 (textOf line)) (K_eo _)
 rw[hm0]at r1
 have r1:K_1p K (textOf line) w14=some ((mText (some (line,0)),0,0,()),w15):=r1
 rw[hst']at r1
 have zz9:=i2.size
 have u911:Upd none_ w9 w11:=j3.trans' k3 fun k hk e=>by omega
 have u1214:Upd none_ w12 w14:=n3.trans' o3 fun k hk e=>by omega
 have u615:=(((((g2.and0 h2).and0 i2).and0 u911).and0 m2).and0 u1214).and0 r2
 have k15:=((k2.upd0 m2).upd0 u1214).upd0 r2
 have o15:=o2.upd0 r2
 have lA:ldA 4 ⟨w9.heap.size,0,none⟩ w15=some (shL (setN line) (bAt line 2) (bAt line 3) (bAt line 4)).toArray:=k15.ldA (i:=0) (n:=4) (by simp[shL])
 have lB:ldA 4 ⟨w12.heap.size,0,none⟩ w15=some (shL (setN line) (bAt line 2) (bAt line 3) (bAt line 4)).toArray:=o15.ldA (i:=0) (n:=4) (by simp[shL])
 have hs1:K_3g K (textOf line) true (textOf line) 0 ⟨w9.heap.size,0,none⟩ 0 ⟨w12.heap.size,0,none⟩ 0 (textOf line) 0 0 w15=some ((false,()),w15):=by
  unfold K_3g K_19
  rw[if_neg (by decide),J_bs,if_neg (by decide),K_100,decide_eq_true rfl,if_neg (by decide),J_bs,if_neg (by decide),J_bs,if_neg (by decide),lA,J_bs,lB,J_bs,K_12b,bnd_ok]
  rw[show asB (Value.bool false)=some false from rfl,J_bs,if_neg (by decide),if_neg (by decide),if_neg (by decide),J_bs]
  rfl
 have u15:=u6.and0 u615
 obtain⟨sa,w16,t1,t2,t3,t4⟩:=K_od hK w15 hm (by omega) (by omega)
 obtain⟨sb,w17,v1,v2,v3,v4⟩:=K_od hK w16 (l:=hurt) (m:=m) (by omega) (by omega) (by omega)
 obtain⟨w18,x1,x2⟩:=K_yt (K:=K) (word:=word) (line:=textOf line) (p:=⟨w1.heap.size,0,none⟩) (n:=((far hurt line:Nat):Int)) (l:=line) (m:=hurt) hhl.symm (by omega) line.length 0 K w17 0 (by omega) (by omega) (Nat.le_refl _) ((t2.upd0 v3).src (K_14 _)) (v2.src (K_14 _))
 rw[List.drop_zero,List.drop_zero,Nat.zero_add,K_si line hurt]at x1
 have x1:K_o K K word ⟨w1.heap.size,0,none⟩ (textOf line) ((far hurt line:Nat):Int) sa sb 0 0 w17=_:=x1
 have u18:=((u15.and0 t3).and0 v3).and0 x2
 have hTw:=K_c3 word
 have hwn:(natsOf word).length=word.size:=K_ty word
 have hmx:maxLen≤9223372036854775807:=by simp only[maxLen];omega
 have y1:=K_12p (K:=K) (line:=textOf line) (p:=⟨w1.heap.size,0,none⟩) (w:=w18) hTw (by show (natsOf word).length≤_;omega) (natsOf word).length 0 K (by show 0+_=(natsOf word).length;omega) (by omega)
 rw[List.drop_zero]at y1
 have y1:K_x K K word ⟨w1.heap.size,0,none⟩ (textOf line) 0 w18=some (if ∀ x∈natsOf word,gapB x=false then .norm () else .ret (true,()),w18):=y1
 have hp18:=hp6.upd0 (((u615.and0 t3).and0 v3).and0 x2)
 obtain⟨_,z1,_,_,_⟩:=K_x7 hp18
 have hpl:=K_x7 hp6
 have hsl5:IntKind.u64.wrap ((sl.len:Nat):Int)≠0:=by rw[hsll,K_l6 (by omega)];omega
 have eA:IntKind.i64.wrap (Int.tmod (IntKind.u64.wrap pa) (IntKind.u64.wrap ((sl.len:Nat):Int)))=((idxU pa (cntD need count):Nat):Int):=by rw[hsll];exact K_p5 pa hcpos (by omega)
 have cA:(0:Int)≤((idxU pa (cntD need count):Nat):Int)∧((idxU pa (cntD need count):Nat):Int)<((sl.len:Nat):Int):=by omega
 have hll:=K_dv line m hm (by omega)
 have htn:natsOf (textOf line)=lets line:=K_ja hm
 have htz:(textOf line).size=(lets line).length:=by rw[←K_ty,htn]
 have hj:=K_9c pi (n:=m) (by omega)
 have eM:IntKind.i64.wrap (Int.tdiv (IntKind.i64.wrap ((((textOf line).size:Nat):Int)+1)) 6)=(m:Int):=by
  have e1:IntKind.i64.wrap ((((textOf line).size:Nat):Int)+1)=((6*m:Nat):Int):=by rw[htz,w64 (by omega) (by omega)];omega
  have e2:Int.tdiv ((6*m:Nat):Int) 6=((6*m / 6:Nat):Int):=rfl
  rw[e1,e2,w64 (by omega) (by omega)];omega
 have eJ:IntKind.i64.wrap (6*IntKind.i64.wrap (Int.tmod (IntKind.u64.wrap pi) (IntKind.u64.wrap (m:Int))))=((6*idxU pi m:Nat):Int):=by
  rw[K_p5 pi (by omega) (by omega),w64 (by omega) (by omega)];omega
 have eJ5:IntKind.i64.wrap (((6*idxU pi m:Nat):Int)+5)=((6*idxU pi m+5:Nat):Int):=by rw[w64 (by omega) (by omega)];rfl
 generalize hjj:idxU pi m=j at eJ eJ5 hj
 have last:(∀ x∈natsOf word,gapB x=false)→word.size=5→∃ n w20,n≤2∧K_1p K ((((textOf line).extract 0 (6*j)) ++ word) ++ ((textOf line).extract (6*j+5) (textOf line).size)) w18.drew=some ((textOf line,((n:Nat):Int),0,()),w20)∧Upd none_ w18 w20:=fun hg h5=>by
  obtain⟨n,hn,hmw⟩:=hword j (natsOf word) hj (by omega) hg
  obtain⟨w20,k1,k2⟩:=K_v1 hK w18.drew (K_c3 ((((textOf line).extract 0 (6*j)) ++ word) ++ ((textOf line).extract (6*j+5) (textOf line).size))) (K_eo _)
  have hnat:(((((textOf line).extract 0 (6*j)) ++ word) ++ ((textOf line).extract (6*j+5) (textOf line).size)).data.toList.map UInt8.toNat)=(lets line).take (6*j) ++ natsOf word ++ (lets line).drop (6*j+5):=by
   show natsOf _=_
   rw[K_n5,K_n5,K_xi,K_z4,htn]
  rw[hnat,hmw]at k1
  have k1:K_1p K ((((textOf line).extract 0 (6*j)) ++ word) ++ ((textOf line).extract (6*j+5) (textOf line).size)) w18.drew=some ((mText (some (line,n)),((n:Nat):Int),0,()),w20):=k1
  have hst2:mText (some (line,n))=textOf line:=hst' n
  rw[hst2]at k1
  exact⟨n,w20,hn,k1,k2.predrew⟩
 have run:K_4u K (dlC (set:Int) s need count own r) (pkL pa pi pk (bF px) (bF py)).toArray word W=(match (if ∀ x∈natsOf word,gapB x=false then(.norm ():Out Unit (Bool×Unit)) else .ret (true,())) with
   | .norm z_66n=>(if (((word.size:Nat):Int) != 5)=true then(some ((true,()),w18)) else
    (if ((textOf line).extract 0 (6*j)).size+word.size≤9223372036854775807 then(if (((textOf line).extract 0 (6*j)) ++ word).size+((textOf line).extract (6*j+5) (textOf line).size).size≤9223372036854775807 then(bnd (K_1p K ((((textOf line).extract 0 (6*j)) ++ word) ++ ((textOf line).extract (6*j+5) (textOf line).size)) w18.drew) fun r_68 w_69=>
    (K_19 r_68.2.2.1).bind fun r_70=>
    if (r_70.1 == 0)=true then(if (r_68.1.toList == (textOf line).toList)=true then(if (decide (r_68.2.1≥0))=true then(some (((decide (r_68.2.1≤2)),()),w_69)) else(some ((false,()),w_69))) else(some ((false,()),w_69))) else(some ((false,()),w_69))) else none) else none))
   | .ret z_66r=>(some ((z_66r.1,()),w18))):=by
  unfold K_4u
  rw[a1,bnd_ok,b1,bnd_ok,hA,J_bs,c1,bnd_ok,d1,bnd_ok]
  dsimp only
  rw[if_pos hz6,e1,J_bs,hs0,bnd_ok]
  dsimp only
  rw[if_neg (by decide),p0,J_bs,if_pos hsl5,q1,J_bs,eA,if_pos cA,J_tn,Nat.mul_one,q2,J_bs,p1,J_bs,p3,J_bs,p2,J_bs,p4,J_bs,g1,bnd_ok]
  dsimp only
  rw[h1,bnd_ok,i1,bnd_ok,j1,bnd_ok]
  dsimp only
  rw[if_pos hz4,k1,J_bs,m1,bnd_ok,n1,bnd_ok]
  dsimp only
  rw[if_pos hz4,o1,J_bs,r1,bnd_ok]
  dsimp only
  rw[hs1,bnd_ok]
  dsimp only
  rw[if_neg (by decide),t1,bnd_ok,v1,bnd_ok]
  dsimp only
  rw[x1,bnd_ok]
  dsimp only
  rw[if_neg (by simp),y1,bnd_ok]
  by_cases hg:∀ x∈natsOf word,gapB x=false
  ·rw[if_pos hg]
   dsimp only
   by_cases h5:(((word.size:Nat):Int) != 5)=true
   ·rw[if_pos h5,if_pos h5]
   ·rw[if_neg h5,if_neg h5,z1,J_bs,eM,if_pos (by rw[K_l6 (by omega)];omega),eJ,if_pos (by omega),J_tn]
    congr 1
    rw[eJ5,if_pos (by omega),J_tn]
  ·rw[if_neg hg]
 rw[run]
 by_cases hg:∀ x∈natsOf word,gapB x=false
 ·rw[if_pos hg]
  dsimp only
  by_cases h5:word.size=5
  ·obtain⟨n,w20,hn,k1,k2⟩:=last hg h5
   have hz1:((textOf line).extract 0 (6*j)).size≤(textOf line).size:=by
    rw[ByteArray.size_extract];omega
   have hz2:((textOf line).extract (6*j+5) (textOf line).size).size≤(textOf line).size:=by
    rw[ByteArray.size_extract];omega
   refine⟨w20,?_,u18.and0 k2⟩
   rw[if_neg (by rw[h5];decide),if_pos (by omega),if_pos (by rw[ByteArray.size_append];omega),k1,bnd_ok]
   unfold K_19
   rw[J_bs]
   dsimp only
   rw[if_pos (by rfl),K_100,decide_eq_true rfl,if_pos rfl,if_pos (decide_eq_true (by omega)),decide_eq_true (by omega)]
  ·refine⟨w18,?_,u18⟩
   rw[if_pos (by rw[bne_iff_ne];omega)]
 ·rw[if_neg hg]
  exact⟨w18,rfl,u18⟩
end Go.Sh
