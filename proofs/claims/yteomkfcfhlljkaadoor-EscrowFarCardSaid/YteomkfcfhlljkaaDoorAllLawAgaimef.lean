/- Texts of this claim, put together: FwHi -/
import Derived.Test.YteomkfcfhlljkaaDoorAllFwmlkaep
namespace Go.Fw
section
variable {β:Type} (P:Program) (E:Env) (EQ:REnv)
abbrev WatchI:=List (Nat×Oper×Fr×Value)
def waitsI(ops:Array Oper):Nat→Nat→Nat→Bool
 | 0,_,_=>false
 | n+1,i,j=>match ops[j]? with
  | some o=>o.after.toList.any fun e=>Region.binds .any e && (e.on == i || waitsI ops n i e.on)
  | none=>false
def actI(ops:Array Oper)(j:Nat):Bool:=match ops[j]? with
 | some o=>!pureK P o.op && !loadB o.op
 | none=>false
def relI(ops:Array Oper)(listed:Array Bool)(i:Nat):Bool:=(List.range ops.size).all fun j=>!(listed.getD j false && actI P ops j && waitsI ops ops.size i j)
noncomputable def watchI (ops:Array Oper) (listed:Array Bool) (w:World):WatchI→Option β→Option β
 | [],k=>k
 | (i,o,φ,v) :: r,k=>bif relI P ops listed i then stepQ P EQ o φ w (fun v2=>sameK v v2 (watchI ops listed w r k)) none else watchI ops listed w r k
noncomputable def drawI (ops:Array Oper) (R:Rg):Nat→Array Bool→Fr→World→WatchI→(Fr→World→Option β)→Option β
 | 0,listed,φ,w,_,K=>match Region.ready .any ops listed with
  | []=>K φ w
  | _=>none
 | f+1,listed,φ,w,M,K=>match Region.ready .any ops listed with
  | []=>K φ w
  | j :: js=>match (j :: js).find? (fun i=>match ops[i]? with | some o=>pureK P o.op && Region.free .any ops listed i | none=>false) with
   | some i=>match ops[i]? with
    | some o=>guardK ops o.guard φ fun b φ=>bif b then stepQ P EQ o φ w (fun v=>putK R o.dst v φ fun φ'=>drawI ops R f (listed.setIfInBounds i true) φ' w M K) none
      else putK R o.dst undef φ fun φ'=>drawI ops R f (listed.setIfInBounds i true) φ' w M K
    | none=>none
   | none=>match (j :: js).find? (fun i=>match ops[i]? with | some o=>loadB o.op && Region.free .any ops listed i | none=>false) with
    | some i=>match ops[i]? with
     | some o=>guardK ops o.guard φ fun b φ=>bif b then stepQ P EQ o φ w (fun v=>putK R o.dst v φ fun φ'=>drawI ops R f (listed.setIfInBounds i true) φ' w ((i,o,φ,v) :: M) K) none
       else putK R o.dst undef φ fun φ'=>drawI ops R f (listed.setIfInBounds i true) φ' w M K
     | none=>none
    | none=>allB ((j :: js).map fun j=>match ops[j]? with
      | some o=>opK P E EQ ops R o φ w fun φ' w'=>watchI P EQ ops (listed.setIfInBounds j true) w' M (drawI ops R f (listed.setIfInBounds j true) φ' w' M K)
      | none=>none)
end
section
variable {P:Program} {ops:Array Oper} {Q:Exit→Act→World→Prop} {md:Region.Mode}
def wpAnyI(P:Program)(md:Region.Mode)(ops:Array Oper)(Q:Exit→Act→World→Prop)(S:Array Bool→World→Prop):Nat→Array Bool→Act→World→Prop
 | 0,listed,a,w=>Region.ready md ops listed=[]∧Q .normal a w
 | fuel+1,listed,a,w=>
  (Region.ready md ops listed=[]→Q .normal a w)∧
  ∀ i∈Region.ready md ops listed,wpOp P ops Q i (fun a' w'=>S (listed.setIfInBounds i true) w'∧wpAnyI P md ops Q S fuel (listed.setIfInBounds i true) a' w') a w
theorem K_ta{S:Array Bool→World→Prop}:∀ (fuel:Nat) (listed:Array Bool) (a:Act) (w:World),wpAnyI P md ops Q S fuel listed a w→wpAny P md ops Q fuel listed a w
 | 0,_,_,_,h=>h
 | fuel+1,_,_,_,h=>⟨h.1,fun i hi=>wpOp_mono (fun a' w' h'=>K_ta fuel _ a' w' h'.2) (h.2 i hi)⟩
theorem K_qa{S T:Array Bool→World→Prop}(h:∀ L w,S L w→T L w):
  ∀ (f:Nat) (listed:Array Bool) (a:Act) (w:World),wpAnyI P md ops Q S f listed a w→wpAnyI P md ops Q T f listed a w
 | 0,_,_,_,hh=>hh
 | f+1,_,_,_,hh=>⟨hh.1,fun i hi=>wpOp_mono (fun a' w' h3=>⟨h _ w' h3.1,K_qa h f _ a' w' h3.2⟩) (hh.2 i hi)⟩
def Closed(md:Region.Mode)(ops:Array Oper)(L:Array Bool):Prop:=∀ j oj,ops[j]? =some oj→L.getD j false=true→∀ e∈oj.after,Region.binds md e=true→L.getD e.on false=true
theorem K_i9{L:Array Bool}{i k:Nat}(h:L.getD k false=true):(L.setIfInBounds i true).getD k false=true:=by
 by_cases c:i=k
 ·subst c
  have hk:i<L.size:=by
   rcases Nat.lt_or_ge i L.size with h' | h'
   ·exact h'
   ·simp[Array.getElem?_eq_none h']at h
  simp[hk]
 ·rw[getD_set_ne false c];exact h
theorem Closed.set{L:Array Bool}(h:Closed md ops L){i:Nat}(hi:i∈Region.ready md ops L):Closed md ops (L.setIfInBounds i true):=by
 intro j oj hj hl e he hb
 by_cases c:i=j
 ·subst c
  obtain⟨_,o,ho,hall⟩:=mem_ready.1 hi
  rw[ho]at hj
  obtain rfl:=Option.some.inj hj
  exact K_i9 (hall e he hb)
 ·rw[getD_set_ne false c]at hl
  exact K_i9 (h j oj hj hl e he hb)
theorem Closed.none(n:Nat):Closed md ops (Array.replicate n false):=by
 intro j oj hj hl
 exfalso
 rcases Nat.lt_or_ge j n with h | h
 ·simp[h]at hl
 ·simp[Array.getElem?_eq_none,h]at hl
theorem K_h2{S:Array Bool→World→Prop} {i:Nat} {oi:Oper} {v:Value} (hi:ops[i]? =some oi) (hsel:∀ (j:Nat) (o:Oper) cs b,ops[j]? =some o→o.op≠.select cs b)
  (hQ:∀ c a w,Q (.panic c) (a.put oi.dst v) w→Q (.panic c) a w)
  (hA:∀ L w,Closed md ops L→i∈Region.ready md ops L→S (L.setIfInBounds i true) w→S L w):
  ∀ (fuel:Nat) (listed:Array Bool) (a:Act) (w:World),Closed md ops listed→
   (∀ j oj,ops[j]? =some oj→j≠i→listed.getD j true=false→(∀ e∈oj.after,Region.binds md e=true→e.on≠i)→oi.apart ops oj=true)→
   i∈Region.ready md ops listed→YieldsIf P ops (fun w=>∃ L,Closed md ops L∧i∈Region.ready md ops L∧S (L.setIfInBounds i true) w) oi v a→S (listed.setIfInBounds i true) w→
   wpAnyI P md ops Q S fuel (listed.setIfInBounds i true) (a.put oi.dst v) w→wpAnyI P md ops Q S (fuel+1) listed a w:=by
 intro fuel
 induction fuel with
 | zero=>
  intro listed a w hcl _ hr hy hS H
  refine⟨fun h=>(by rw[h]at hr;cases hr),fun j hj=>?_⟩
  by_cases hji:j=i
  ·subst hji;exact hy.wpOp hi ⟨listed,hcl,hr,hS⟩ ⟨hS,H⟩
  ·have:=ready_mono hj hji
   rw[H.1]at this
   cases this
 | succ fuel ih=>
  intro listed a w hcl hfree hr hy hS H
  refine⟨fun h=>(by rw[h]at hr;cases hr),fun j hj=>?_⟩
  by_cases hji:j=i
  ·subst hji;exact hy.wpOp hi ⟨listed,hcl,hr,hS⟩ ⟨hS,H⟩
  ·have h1:=H.2 j (ready_mono hj hji)
   obtain⟨hjun,oj,hoj,hall⟩:=mem_ready.1 hj
   have hnot:∀ e∈oj.after,Region.binds md e=true→e.on≠i:=fun e he hb heq=>by
    have h1:=hall e he hb
    have h0:=(mem_ready.1 hr).1
    rw[heq]at h1
    rcases Nat.lt_or_ge i listed.size with h' | h'
    ·simp[h']at h0 h1;rw[h0]at h1;cases h1
    ·simp[Array.getElem?_eq_none h']at h1
   have h2:=wpOp_putIf hoj (hfree j oj hoj hji hjun hnot) (fun cs b=>hsel i oi cs b hi) (fun cs b=>hsel j oj cs b hoj) hQ hy h1
   have hfree':∀ k ok,ops[k]? =some ok→k≠i→(listed.setIfInBounds j true).getD k true=false→
     (∀ e∈ok.after,Region.binds md e=true→e.on≠i)→oi.apart ops ok=true:=fun k ok hk hki hun hno=>by
    refine hfree k ok hk hki ?_ hno
    by_cases hjk:j=k
    ·subst hjk;exact hjun
    ·rw[getD_set_ne true hjk]at hun;exact hun
   have hr':=ready_mono hr (Ne.symm hji)
   have hcl':=hcl.set hj
   refine wpOp_mono (fun a' w' h3=>?_) h2
   have h4:=h3.2.1
   have h5:=h3.2.2
   rw[←Array.setIfInBounds_comm _ _ hji]at h4 h5
   exact⟨hA _ w' hcl' hr' h4,ih (listed.setIfInBounds j true) a' w' hcl' hfree' hr' h3.1 h4 h5⟩
end
section
variable {β:Type} {P:Program} {E:Env} {EQ:REnv} {ops:Array Oper}
theorem K_mm{L:Array Bool}(hcl:Closed .any ops L){i:Nat}:∀ (n j:Nat),waitsI ops n i j=true→L.getD j false=true→L.getD i false=true
 | 0,_,h,_=>by cases h
 | n+1,j,h,hl=>by
  unfold waitsI at h
  split at h
  ·rename_i o ho
   obtain⟨e,he,h⟩:=List.any_eq_true.1 h
   have he:e∈o.after:=Array.mem_toList_iff.1 he
   rw[Bool.and_eq_true,Bool.or_eq_true]at h
   have h1:=hcl j o ho hl e he h.1
   rcases h.2 with h2 | h2
   ·rw[←beq_iff_eq.1 h2];exact h1
   ·exact K_mm hcl n _ h2 h1
  ·cases h
theorem K_rb{L:Array Bool}{i:Nat}:relI P ops L i=true↔∀ j,j<ops.size→L.getD j false=true→actI P ops j=true→waitsI ops ops.size i j=false:=by
 unfold relI
 rw[List.all_eq_true]
 constructor
 ·intro h j hj h1 h2
  have:=h j (List.mem_range.2 hj)
  rw[h1,h2]at this
  simpa using this
 ·intro h j hj
  have hj:=List.mem_range.1 hj
  cases h1:L.getD j false with
  | false=>rfl
  | true=>
   cases h2:actI P ops j with
   | false=>rfl
   | true=>rw[h j hj h1 h2];rfl
theorem K_12x{L:Array Bool}(hcl:Closed .any ops L){i:Nat}(hi:i∈Region.ready .any ops L)(ha:actI P ops i=false):relI P ops (L.setIfInBounds i true) i=true:=by
 rw[K_rb]
 intro j hj hl hact
 by_cases c:j=i
 ·rw[c,ha]at hact;cases hact
 ·rw[getD_set_ne false (Ne.symm c)]at hl
  cases hw:waitsI ops ops.size i j with
  | false=>rfl
  | true=>
   have h1:=K_mm hcl _ _ hw hl
   have h0:=(mem_ready.1 hi).1
   rcases Nat.lt_or_ge i L.size with h' | h'
   ·simp[h']at h0 h1;rw[h0]at h1;cases h1
   ·simp[Array.getElem?_eq_none h']at h1
theorem K_zc{L:Array Bool}{i k:Nat}(ha:actI P ops i=false)(h:relI P ops L k=true):relI P ops (L.setIfInBounds i true) k=true:=by
 rw[K_rb]at h ⊢
 intro j hj hl hact
 by_cases c:j=i
 ·rw[c,ha]at hact;cases hact
 ·rw[getD_set_ne false (Ne.symm c)]at hl
  exact h j hj hl hact
theorem relI_quiet'{L:Array Bool}{i k:Nat}(h:relI P ops (L.setIfInBounds i true) k=true):relI P ops L k=true:=by
 rw[K_rb]at h ⊢
 exact fun j hj hl hact=>h j hj (K_i9 hl) hact
def WatchOkI(P:Program)(EQ:REnv)(ops:Array Oper)(M:WatchI)(S:Array Bool→World→Prop):Prop:=
 (∀ L w (k:Option β) (r:β),watchI P EQ ops L w M k=some r→S L w∧k=some r)∧∀ i,actI P ops i=false→∀ L w,S (L.setIfInBounds i true) w↔S L w
theorem K_y4(hE:E.Ok P) (hQ:EQ.Ok P) (hs:Region.noSelect ops=true) {R:Rg} {K:Fr→World→Option β} {r:β} {a0:Act} {Q:Exit→Fr→World→Prop}
  (hK:∀ φ w,K φ w=some r→Q .normal φ w) (hP:∀ c φ w,¬Q (.panic c) φ w):
  ∀ (f:Nat) (listed:Array Bool) (φ:Fr) (w:World) (a:Act) (M:WatchI) (S:Array Bool→World→Prop),WatchOkI (β:=β) P EQ ops M S→Closed .any ops listed→S listed w→drawI P E EQ ops R f listed φ w M K=some r→Agree φ a→Room R a→Kept R a0 a→
   wpAnyI P .any ops (Post R a0 Q) S f listed a w:=by
 have hP':∀ c a w,¬Post R a0 Q (.panic c) a w:=fun c a w ⟨_,φ,_,h⟩=>hP c φ w h
 have hsel:=Region.noSelect_spec hs
 intro f
 induction f with
 | zero=>
  intro listed φ w a M S _ _ _ h ha hr hk
  unfold drawI at h
  split at h
  ·rename_i hrd;exact⟨hrd,hk,φ,ha,hK φ w h⟩
  ·cases h
 | succ f ih=>
  intro listed φ w a M S hM hcl hS h ha hr hk
  unfold drawI at h
  split at h
  ·rename_i hrd
   exact⟨fun _=>⟨hk,φ,ha,hK φ w h⟩,fun j hj=>by rw[hrd]at hj;cases hj⟩
  ·rename_i j js hrd
   split at h
   ·rename_i i hfind
    have hmem:=List.mem_of_find?_eq_some hfind
    have hprop:=List.find?_some hfind
    rw[←hrd]at hmem
    split at h
    ·rename_i o ho
     simp only[ho,Bool.and_eq_true]at hprop
     have hact:actI P ops i=false:=by unfold actI;simp[ho,hprop.1]
     obtain⟨v,φ',h,_,hy,ha',hk'⟩:=K_fj P EQ hQ h ha hr
     have hS':=(hM.2 i hact listed w).2 hS
     exact K_h2 ho hsel (fun c a w h=>absurd h (hP' _ _ _)) (fun L w _ _=>(hM.2 i hact L w).1) f listed a w hcl (Region.free_spec ho hprop.2) hmem (hy hprop.1).yieldsIf hS'
      (ih _ φ' w _ M S hM (hcl.set hmem) hS' h ha' (hk'.room hr) (hk.trans hk'))
    ·cases h
   ·split at h
    ·rename_i i hfind
     have hmem:=List.mem_of_find?_eq_some hfind
     have hprop:=List.find?_some hfind
     rw[←hrd]at hmem
     split at h
     ·rename_i o ho
      simp only[ho,Bool.and_eq_true]at hprop
      have hact:actI P ops i=false:=by unfold actI;simp[ho,hprop.1]
      obtain⟨b,φ1,h,hb⟩:=K_ag h
      obtain⟨ha1,hw⟩:=hb a ha
      cases b with
      | true=>
       simp only[cond_true]at h
       rcases K_5l P hQ h with ⟨v,h,hd,_⟩ | h
       ·obtain⟨φ2,h,h2⟩:=K_4p h
        obtain⟨h3,h4⟩:=h2 a ha1 hr
        have val:∀ w',DoesQ P o φ1 w' v→(execOp a.eval o).run P w'= .ok (.value v) w':=fun w' hd'=>by
         rcases hd' a ha1 with h5 | ⟨f5,args,h5,_⟩
         ·exact h5
         ·exact absurd h5 (K_se hprop.1)
        let S':Array Bool→World→Prop:=fun L w'=>S L w'∧(relI P ops L i=true→(execOp a.eval o).run P w'= .ok (.value v) w')
        have hM':WatchOkI (β:=β) P EQ ops ((i,o,φ1,v) :: M) S':=by
         refine⟨fun L w' k r' hk'=>?_,fun i' hi' L w'=>?_⟩
         ·simp only[watchI]at hk'
          cases hrel:relI P ops L i with
          | true=>
           rw[hrel,cond_true]at hk'
           rcases K_5l P hQ hk' with ⟨v2,hk',hd2,_⟩ | hk'
           ·obtain⟨e,hk2⟩:=K_m6 hk'
            subst e
            obtain⟨h6,h7⟩:=hM.1 L w' k r' hk2
            exact⟨⟨h6,fun _=>val w' hd2⟩,h7⟩
           ·cases hk'
          | false=>
           rw[hrel,cond_false]at hk'
           obtain⟨h6,h7⟩:=hM.1 L w' k r' hk'
           exact⟨⟨h6,fun e=>by rw[hrel]at e;cases e⟩,h7⟩
         ·exact⟨fun⟨x1,x2⟩=>⟨(hM.2 i' hi' L w').1 x1,fun e=>x2 (K_zc hi' e)⟩,fun⟨x1,x2⟩=>⟨(hM.2 i' hi' L w').2 x1,fun e=>x2 (relI_quiet' e)⟩⟩
        have hS0:S' (listed.setIfInBounds i true) w:=⟨(hM.2 i hact listed w).2 hS,fun _=>val w hd⟩
        have H:=ih _ φ2 w _ ((i,o,φ1,v) :: M) S' hM' (hcl.set hmem) hS0 h h3 (h4.room hr) (hk.trans h4)
        refine K_qa (S:=S') (fun _ _ h=>h.1) _ _ _ _ ?_
        exact K_h2 ho hsel (fun c a w h=>absurd h (hP' _ _ _)) (fun L w _ _=>(hM'.2 i hact L w).1) f listed a w hcl (Region.free_spec ho hprop.2) hmem (.inl ⟨hw,fun w' ⟨L,hc,hm,hw'⟩=>hw'.2 (K_12x hc hm hact)⟩) hS0 H
       ·cases h
      | false=>
       simp only[cond_false]at h
       obtain⟨φ2,h,h2⟩:=K_4p h
       obtain⟨h3,h4⟩:=h2 a ha1 hr
       have hS':=(hM.2 i hact listed w).2 hS
       exact K_h2 ho hsel (fun c a w h=>absurd h (hP' _ _ _)) (fun L w _ _=>(hM.2 i hact L w).1) f listed a w hcl (Region.free_spec ho hprop.2) hmem (.inr ⟨hw,rfl⟩) hS'
        (ih _ φ2 w _ M S hM (hcl.set hmem) hS' h h3 (h4.room hr) (hk.trans h4))
     ·cases h
    ·refine⟨fun h0=>(by rw[h0]at hrd;cases hrd),fun j' hj'=>?_⟩
     have hmem':=hj'
     rw[hrd]at hj'
     have h:=K_nt h _ (List.mem_map_of_mem hj')
     split at h
     ·rename_i o ho
      have h1:=K_ef P E EQ hE hQ h ha hr (next:=fun a' w'=>S (listed.setIfInBounds j' true) w'∧wpAnyI P .any ops (Post R a0 Q) S f (listed.setIfInBounds j' true) a' w') (Q:=Post R a0 Q)
       fun φ' w' a' h' ha' hk'=>by
        obtain⟨h8,h9⟩:=hM.1 (listed.setIfInBounds j' true) w' _ r h'
        exact⟨h8,ih _ φ' w' a' M S hM (hcl.set hmem') h8 h9 ha' (hk'.room hr) (hk.trans hk')⟩
      unfold wpOp
      simp only[ho]
      split
      ·rename_i hw;rw[if_pos hw]at h1;exact .inl h1
      ·rename_i hw;rw[if_neg hw]at h1;exact h1
     ·cases h
noncomputable def drawCI (P:Program) (E:Env) (EQ:REnv) (R:Rg):Code→Fr→World→(Fr→World→Option β)→Option β
 | .region _ ops true,φ,w,K=>bif Region.noSelect ops then drawI P E EQ ops R ops.size (Array.replicate ops.size false) φ w.drew [] K else none
 | _,_,_,_=>none
theorem K_y7{S:Array Bool→World→Prop} {Q:Exit→Act→World→Prop} {id:Nat} {a:Act} {w:World} (hm:P.follows .mixedOrders=true)
  (h:wpAnyI P .any ops Q S ops.size (Array.replicate ops.size false) a w.drew):(Code.region id ops true).wp P Q a w:=
 wp_region_any hm (K_ta _ _ _ _ h)
end
theorem K_y2{P:Program} {E:Env} {EQ:REnv} (hE:E.Ok P) (hQ:EQ.Ok P) (hm:P.follows .mixedOrders=true) {R:Rg} {Li Lo:Vars} {S:{β:Type}→TT Li→World→(TT Lo→World→Option β)→Option β} {c:Code}
  (h:∀ {β:Type} x w (k:TT Lo→World→Option β),drawCI P E EQ R c (encs Li x []) w (outC Lo k .normal)=S x w k):StmtCOk P Li Lo R S c:=by
 intro β x w k r hS
 have h1:=(h x w k).trans hS
 unfold drawCI at h1
 split at h1
 ·rename_i id ops
  cases hs:Region.noSelect ops with
  | false=>simp[hs]at h1
  | true=>
   simp only[hs,cond_true]at h1
   intro a ha hr
   have H:=K_y4 hE hQ hs (Q:=fun e φ' w2=>e= .normal∧outC Lo k e φ' w2=some r) (fun φ w h=>⟨rfl,h⟩) (fun c φ w h=>by cases h.1) ops.size _ (encs Li x []) (World.drew _) a [] (fun _ _=>True)
    ⟨fun L w k r hk=>⟨trivial,hk⟩,fun _ _ _ _=>Iff.rfl⟩ (Closed.none _) trivial h1 ha hr (.refl R a)
   refine wp_mono (K_y7 hm H) fun e a' w2 ⟨hk,φ',hφ,hx⟩=>⟨hk,φ',hφ,hx.2⟩
 ·cases h1
end Go.Fw
