/- Texts of this claim, put together: Sh12, Sh13, Sh14 -/
import Derived.Test.YteomkfcfhlljkaaDoorAllShjmnbni
import Derived.Test.YteomkfcfhlljkaaDoorAllLawAgaimef
set_option maxRecDepth 100000
set_option linter.unusedVariables false
namespace Go.Sh
open Go.Fw Go.Proofs.Tryd
noncomputable def K_wq (K:Nat):List (Nat×CE):=[(16,K_dk K),(28,K_j8 K),(30,K_eu K)]
theorem K_jw(K:Nat):Env.Ok prog (tab (K_wq K)):=(Env.cons (K_k8 K) (Env.cons (K_ua K) (Env.cons (K_pp K) (Env.nil _))))
noncomputable def K_wn (K:Nat):List (Nat×RE):=[(19,K_gh)]
theorem K_j6(K:Nat):REnv.Ok prog (tab (K_wn K)):=(REnv.cons (K_nw) (REnv.nil _))
noncomputable def K_8g (K:Nat) (l1:Sl) (e2:Int) (w:World):Option ((Bool×Unit)×World):=
  (K_5w e2).bind fun r_7=>
  if (r_7.1 != 0)=true then(some ((true,()),w)) else(some (((((l1.len:Nat):Int) != 3),()),w))
noncomputable def K_9k (K:Nat) (w:World):Option ((Bool×Unit)×World):=
  bnd (bldS prog 23 3 #[(0,(.int .u8 1)),(1,(.int .u8 2)),(2,(.int .u8 3))] w) fun s_1 w_2=>
  bnd (bldS prog 23 7 #[(0,(.int .u8 9)),(1,(.int .u8 8)),(2,(.int .u8 7)),(3,(.int .u8 6)),(4,(.int .u8 5)),(5,(.int .u8 4)),(6,(.int .u8 3))] w_2) fun s_3 w_4=>
  bnd (K_5x K 7 s_1 2 3 s_3 w_4) fun r_5 w_6=>
  bnd (K_8g K r_5.1 r_5.2.1 w_6) fun y_8 w_9=>
  if y_8.1=true then(some ((false,()),w_9)) else((r_5.1.a).bind fun p_10=>
  if (0:Int)≤2∧2<((r_5.1.len:Nat):Int) then((r_5.1.a).bind fun p_11=>
  if (0:Int)≤0∧0<((r_5.1.len:Nat):Int) then((ldStr (p_10.add (2*1)) w_9.drew).bind fun v_12=>
  (ldStr (p_11.add (0*1)) w_9.drew).bind fun v_13=>
  bnd (bldS prog 29 2 #[(0,(.string v_12)),(1,(.string v_13))] w_9.drew) fun s_14 w_15=>
  bnd (K_4e K s_14 w_15) fun r_16 w_17=>
  (r_5.1.a).bind fun p_18=>
  if (0:Int)≤1∧1<((r_5.1.len:Nat):Int) then((ldStr (p_18.add (1*1)) w_17).bind fun v_19=>
  bnd (bldS prog 29 1 #[(0,(.string v_19))] w_17) fun s_20 w_21=>
  bnd (K_4e K s_20 w_21) fun r_22 w_23=>
  (K_5w r_16.2.1).bind fun r_24=>
  if (r_24.1 == 0)=true then(bnd (bldS prog 23 3 #[(0,(.int .u8 1)),(1,(.int .u8 2)),(2,(.int .u8 3))] w_23) fun s_25 w_26=>
  bnd (K_48 K r_16.1 s_25 w_26) fun r_27 w_28=>
  if r_27.1=true then((K_5w r_22.2.1).bind fun r_29=>
  some (((r_29.1 == 114),()),w_28)) else(some ((false,()),w_28))) else(some ((false,()),w_23))) else none) else none) else none)
theorem K_qz(K:Nat):StmtNOk prog [(1,.sl),(2,.int .i64)] [(20,.bool)] [(13,21)] (fun x w=>K_8g K x.1 x.2.1 w) (cd (bodyOf f33) [1,1,0,0]):=
    K_y (O:=tabL []) (root:=(bodyOf f33)) (π:=[1,1,0,0]) (K_jw K) (K_j6 K) rfl (Orc.nil _ _ _) (by kernel_rfl) (fun _ _=>by kernel_rfl)
noncomputable def K_gn (K:Nat):SE:=stmtN [(1,.sl),(2,.int .i64)] [(20,.bool)] [(13,21)] (fun x w=>K_8g K x.1 x.2.1 w)
theorem K_n6(K:Nat)(R:Rg)(h:subRB [(13,21)] R=true):(K_gn K).Ok prog R (cd (bodyOf f33) [1,1,0,0]):=K_2 (K_qz K) (K_1 h)
theorem K_h3:FunFacts prog 33 f33 (bodyOf f33) [] [(0,53)]:=⟨func33,by kernel_rfl,by kernel_rfl,by kernel_rfl,by kernel_rfl,by kernel_rfl⟩
theorem K_qx(K:Nat)(x:TT [])(w:World)(y:TR [.bool])(w2:World)(h:K_9k K w=some (y,w2)):Calls prog 33 (encA [] x).toArray w (fun e w3=>e= .returned (resV (encR [.bool] y))∧w3=w2):=
    K_h (O:=tabL [([1,1,0,0],K_gn K)]) (Lp:=[]) (Rt:=[.bool]) (S:=(fun x w=>K_9k K w)) (K_jw K) (K_j6 K) rfl K_h3 (Orc.cons (by kernel_rfl) (K_n6 K [(0,53)] (by kernel_rfl)) (Orc.nil _ _ _)) (fun _ _=>by kernel_rfl) x w y w2 h
noncomputable def K_mf (K:Nat):CE:=funE [] [.bool] (fun x w=>K_9k K w)
theorem K_vk(K:Nat):(K_mf K).Ok prog 33:=K_b K_h3 fun x w y w2 h=>K_qx K x w y w2 h
noncomputable def K_v8 (K:Nat):List (Nat×CE):=[]
theorem K_54(K:Nat):Env.Ok prog (tab (K_v8 K)):=(Env.nil _)
noncomputable def K_vq (K:Nat):List (Nat×RE):=[]
theorem K_50(K:Nat):REnv.Ok prog (tab (K_vq K)):=(REnv.nil _)
noncomputable def K_7b (K:Nat) (line0:ByteArray) (i7:Int) (w:World):Option ((Bool×Unit)×World):=
  if (decide ((IntKind.i64.wrap (i7+5)) > ((line0.size:Nat):Int)))=true then(some ((true,()),w)) else(if (decide (i7 > 0))=true then(if (0:Int)≤(IntKind.i64.wrap (i7 - 1)) then((line0[(Int.toNat (IntKind.i64.wrap (i7 - 1)))]?).bind fun b_1=>
  some (((((b_1.toNat:Nat):Int) != 32),()),w)) else none) else(some ((false,()),w)))
noncomputable def K_7r (K:Nat) (vow5:ByteArray) (set10:ByteArray) (bits11:Int) (a43:Bool) (w:World):Option ((ByteArray×Int×Unit)×World):=
  if a43=true then(some ((vow5,4,()),w)) else(some ((set10,bits11,()),w))
noncomputable def K_63 (K:Nat) (rec:ByteArray→ByteArray→ByteArray→Sl→Int→Int→Int→ByteArray→Int→Int→Int→World→Option ((Int×Unit)×World)) (line0:ByteArray) (con4:ByteArray) (vow5:ByteArray) (out6:Sl) (i7:Int) (v8:Int) (k9:Int) (set10:ByteArray) (bits11:Int) (at12:Int) (j13:Int) (w:World):Option ((Int×Unit)×World):=
  if (decide (j13<bits11))=true then(if (0:Int)≤j13 then((set10[(Int.toNat j13)]?).bind fun b_6=>
  if (0:Int)≤(IntKind.i64.wrap (i7+k9)) then((line0[(Int.toNat (IntKind.i64.wrap (i7+k9)))]?).bind fun b_7=>
  if (((b_6.toNat:Nat):Int) == ((b_7.toNat:Nat):Int))=true then(rec line0 con4 vow5 out6 i7 v8 k9 set10 bits11 j13 (IntKind.i64.wrap (j13+1)) w.drew) else(rec line0 con4 vow5 out6 i7 v8 k9 set10 bits11 at12 (IntKind.i64.wrap (j13+1)) w.drew)) else none) else none) else(some ((at12,()),w))
noncomputable def K_31 (K:Nat) (n:Nat):ByteArray→ByteArray→ByteArray→Sl→Int→Int→Int→ByteArray→Int→Int→Int→World→Option ((Int×Unit)×World):=iter (fun _ _ _ _ _ _ _ _ _ _ _ _=>none) (K_63 K) n
noncomputable def K_6m (K:Nat) (rec:ByteArray→ByteArray→ByteArray→Sl→Int→Int→Int→World→Option ((Out (Int×Unit) (Sl×Bool×Unit))×World)) (line0:ByteArray) (con4:ByteArray) (vow5:ByteArray) (out6:Sl) (i7:Int) (v8:Int) (k9:Int) (w:World):Option ((Out (Int×Unit) (Sl×Bool×Unit))×World):=
  if (decide (k9<5))=true then(bnd (K_7r K vow5 con4 16 ((Int.tmod k9 2) == 1) w) fun y_4 w_5=>
  bnd (K_31 K K line0 con4 vow5 out6 i7 v8 k9 y_4.1 y_4.2.1 (-1) 0 w_5) fun y_8 w_9=>
  if (decide (y_8.1<0))=true then(some (.ret (⟨none,0,0⟩,false,()),w_9)) else(rec line0 con4 vow5 out6 i7 (IntKind.i64.wrap ((IntKind.i64.wrap (v8*y_4.2.1))+y_8.1)) (IntKind.i64.wrap (k9+1)) w_9)) else(some (.norm (v8,()),w))
noncomputable def K_3g (K:Nat) (n:Nat):ByteArray→ByteArray→ByteArray→Sl→Int→Int→Int→World→Option ((Out (Int×Unit) (Sl×Bool×Unit))×World):=iter (fun _ _ _ _ _ _ _ _=>none) (K_6m K) n
noncomputable def K_6i (K:Nat) (rec:ByteArray→ByteArray→ByteArray→Sl→Int→World→Option ((Out (Sl×Unit) (Sl×Bool×Unit))×World)) (line0:ByteArray) (con4:ByteArray) (vow5:ByteArray) (out6:Sl) (i7:Int) (w:World):Option ((Out (Sl×Unit) (Sl×Bool×Unit))×World):=
  if (decide (i7<((line0.size:Nat):Int)))=true then(bnd (K_7b K line0 i7 w) fun y_2 w_3=>
  if y_2.1=true then(some (.ret (⟨none,0,0⟩,false,()),w_3)) else(bnd (K_3g K K line0 con4 vow5 out6 i7 0 0 w_3) fun y_10 w_11=>
  (match y_10 with
  | .norm z_12n=>(bnd (bldS prog 23 2 #[(0,(.int .u8 (IntKind.u8.wrap (IntKind.i64.wrap (Int.tdiv z_12n.1 256))))),(1,(.int .u8 (IntKind.u8.wrap (Int.tmod z_12n.1 256))))] w_11) fun s_13 w_14=>
  bnd (apd prog 23 23 (.slice out6.a out6.len out6.cap) (.slice s_13.a s_13.len s_13.cap) w_14) fun s_15 w_16=>
  rec line0 con4 vow5 s_15 (IntKind.i64.wrap (i7+6)) w_16)
  | .ret z_12r=>(some (.ret (z_12r.1,z_12r.2.1,()),w_11))))) else(some (.norm (out6,()),w))
noncomputable def K_3f (K:Nat) (n:Nat):ByteArray→ByteArray→ByteArray→Sl→Int→World→Option ((Out (Sl×Unit) (Sl×Bool×Unit))×World):=iter (fun _ _ _ _ _ _=>none) (K_6i K) n
noncomputable def K_5s (K:Nat) (line0:ByteArray) (w:World):Option ((Sl×Bool×Unit)×World):=
  bnd (K_3f K K line0 str1 str2 ⟨none,0,0⟩ 0 w) fun y_17 w_18=>
  (match y_17 with
  | .norm z_19n=>(some ((z_19n.1,((Int.tmod ((line0.size:Nat):Int) 6) == 5),()),w_18))
  | .ret z_19r=>(some ((z_19r.1,z_19r.2.1,()),w_18)))
theorem K_pf(K:Nat):StmtNOk prog [(0,.str),(7,.int .i64)] [(35,.bool)] [(20,36)] (fun x w=>K_7b K x.1 x.2.1 w) (cd (bodyOf f35) [1,1,1,1,0,1,0,0,1,0,0,0,0]):=
    K_y (O:=tabL []) (root:=(bodyOf f35)) (π:=[1,1,1,1,0,1,0,0,1,0,0,0,0]) (K_54 K) (K_50 K) rfl (Orc.nil _ _ _) (by kernel_rfl) (fun _ _=>by kernel_rfl)
noncomputable def K_a8 (K:Nat):SE:=stmtN [(0,.str),(7,.int .i64)] [(35,.bool)] [(20,36)] (fun x w=>K_7b K x.1 x.2.1 w)
theorem K_cc(K:Nat)(R:Rg)(h:subRB [(20,36)] R=true):(K_a8 K).Ok prog R (cd (bodyOf f35) [1,1,1,1,0,1,0,0,1,0,0,0,0]):=K_2 (K_pf K) (K_1 h)
theorem K_pk(K:Nat):StmtNOk prog [(5,.str),(10,.str),(11,.int .i64),(43,.bool)] [(10,.str),(11,.int .i64)] [(10,12),(44,45)] (fun x w=>K_7r K x.1 x.2.1 x.2.2.1 x.2.2.2.1 w) (cd (bodyOf f35) [1,1,1,1,0,1,0,0,1,0,0,1,1,0,1,0,0,1,0,0,1,1,0,1]):=
    K_y (O:=tabL []) (root:=(bodyOf f35)) (π:=[1,1,1,1,0,1,0,0,1,0,0,1,1,0,1,0,0,1,0,0,1,1,0,1]) (K_54 K) (K_50 K) rfl (Orc.nil _ _ _) (by kernel_rfl) (fun _ _=>by kernel_rfl)
noncomputable def K_75 (K:Nat):SE:=stmtN [(5,.str),(10,.str),(11,.int .i64),(43,.bool)] [(10,.str),(11,.int .i64)] [(10,12),(44,45)] (fun x w=>K_7r K x.1 x.2.1 x.2.2.1 x.2.2.2.1 w)
theorem K_8c(K:Nat)(R:Rg)(h:subRB [(10,12),(44,45)] R=true):(K_75 K).Ok prog R (cd (bodyOf f35) [1,1,1,1,0,1,0,0,1,0,0,1,1,0,1,0,0,1,0,0,1,1,0,1]):=K_2 (K_pk K) (K_1 h)
theorem K_q8(K:Nat)(n:Nat):StmtNOk prog [(0,.str),(4,.str),(5,.str),(6,.sl),(7,.int .i64),(8,.int .i64),(9,.int .i64),(10,.str),(11,.int .i64),(12,.int .i64),(13,.int .i64)] [(12,.int .i64)] [(12,14),(45,60)] ((fun n x w=>K_31 K n x.1 x.2.1 x.2.2.1 x.2.2.2.1 x.2.2.2.2.1 x.2.2.2.2.2.1 x.2.2.2.2.2.2.1 x.2.2.2.2.2.2.2.1 x.2.2.2.2.2.2.2.2.1 x.2.2.2.2.2.2.2.2.2.1 x.2.2.2.2.2.2.2.2.2.2.1 w) n) (.block 4 (.loop (cd (bodyOf f35) [1,1,1,1,0,1,0,0,1,0,0,1,1,0,1,0,0,1,0,0,1,1,1,1,0,1,0,0]))):=
    K_9 (O:=tabL []) (root:=(bodyOf f35)) (π:=[1,1,1,1,0,1,0,0,1,0,0,1,1,0,1,0,0,1,0,0,1,1,1,1,0,1,0,0]) (Li:=[(0,.str),(4,.str),(5,.str),(6,.sl),(7,.int .i64),(8,.int .i64),(9,.int .i64),(10,.str),(11,.int .i64),(12,.int .i64),(13,.int .i64)]) (Lo:=[(12,.int .i64)]) (S:=(fun n x w=>K_31 K n x.1 x.2.1 x.2.2.1 x.2.2.2.1 x.2.2.2.2.1 x.2.2.2.2.2.1 x.2.2.2.2.2.2.1 x.2.2.2.2.2.2.2.1 x.2.2.2.2.2.2.2.2.1 x.2.2.2.2.2.2.2.2.2.1 x.2.2.2.2.2.2.2.2.2.2.1 w)) (K_54 K) (K_50 K) rfl (Orc.nil _ _ _) (by kernel_rfl) (fun _ _=>by kernel_rfl) (fun _ _ _=>by kernel_rfl) n
noncomputable def K_76 (K:Nat):SE:=stmtN [(0,.str),(4,.str),(5,.str),(6,.sl),(7,.int .i64),(8,.int .i64),(9,.int .i64),(10,.str),(11,.int .i64),(12,.int .i64),(13,.int .i64)] [(12,.int .i64)] [(12,14),(45,60)] (fun x w=>K_31 K K x.1 x.2.1 x.2.2.1 x.2.2.2.1 x.2.2.2.2.1 x.2.2.2.2.2.1 x.2.2.2.2.2.2.1 x.2.2.2.2.2.2.2.1 x.2.2.2.2.2.2.2.2.1 x.2.2.2.2.2.2.2.2.2.1 x.2.2.2.2.2.2.2.2.2.2.1 w)
theorem K_82(K:Nat)(R:Rg)(h:subRB [(12,14),(45,60)] R=true):(K_76 K).Ok prog R (.block 4 (.loop (cd (bodyOf f35) [1,1,1,1,0,1,0,0,1,0,0,1,1,0,1,0,0,1,0,0,1,1,1,1,0,1,0,0]))):=K_2 (K_q8 K K) (K_1 h)
theorem K_pv(K:Nat)(n:Nat):StmtOk prog [(0,.str),(4,.str),(5,.str),(6,.sl),(7,.int .i64),(8,.int .i64),(9,.int .i64)] [(8,.int .i64)] [(2,.sl),(3,.bool)] [(2,4),(8,14),(36,67)] ((fun n x w=>K_3g K n x.1 x.2.1 x.2.2.1 x.2.2.2.1 x.2.2.2.2.1 x.2.2.2.2.2.1 x.2.2.2.2.2.2.1 w) n) (.block 2 (.loop (cd (bodyOf f35) [1,1,1,1,0,1,0,0,1,0,0,1,1,0,1,0,0]))):=
    K_7g (O:=tabL [([1,1,1,1,0,1,0,0,1,0,0,1,1,0,1,0,0,1,0,0,1,1,0,1],K_75 K),([1,1,1,1,0,1,0,0,1,0,0,1,1,0,1,0,0,1,0,0,1,1,1,1,0,1],K_76 K)]) (root:=(bodyOf f35)) (π:=[1,1,1,1,0,1,0,0,1,0,0,1,1,0,1,0,0]) (Li:=[(0,.str),(4,.str),(5,.str),(6,.sl),(7,.int .i64),(8,.int .i64),(9,.int .i64)]) (Lo:=[(8,.int .i64)]) (Lr:=[(2,.sl),(3,.bool)]) (S:=(fun n x w=>K_3g K n x.1 x.2.1 x.2.2.1 x.2.2.2.1 x.2.2.2.2.1 x.2.2.2.2.2.1 x.2.2.2.2.2.2.1 w)) (K_54 K) (K_50 K) rfl (Orc.cons (by kernel_rfl) (K_8c K [(2,4),(8,14),(36,67)] (by kernel_rfl)) (Orc.cons (by kernel_rfl) (K_82 K [(2,4),(8,14),(36,67)] (by kernel_rfl)) (Orc.nil _ _ _))) (by kernel_rfl) (fun _ _=>by kernel_rfl) (fun _ _ _=>by kernel_rfl) n
noncomputable def K_a3 (K:Nat):SE:=stmt [(0,.str),(4,.str),(5,.str),(6,.sl),(7,.int .i64),(8,.int .i64),(9,.int .i64)] [(8,.int .i64)] [(2,.sl),(3,.bool)] [(2,4),(8,14),(36,67)] (fun x w=>K_3g K K x.1 x.2.1 x.2.2.1 x.2.2.2.1 x.2.2.2.2.1 x.2.2.2.2.2.1 x.2.2.2.2.2.2.1 w)
theorem K_cg(K:Nat)(R:Rg)(h:subRB [(2,4),(8,14),(36,67)] R=true):(K_a3 K).Ok prog R (.block 2 (.loop (cd (bodyOf f35) [1,1,1,1,0,1,0,0,1,0,0,1,1,0,1,0,0]))):=K_5z (K_pv K K) (K_1 h)
theorem K_q2(K:Nat)(n:Nat):StmtOk prog [(0,.str),(4,.str),(5,.str),(6,.sl),(7,.int .i64)] [(6,.sl)] [(2,.sl),(3,.bool)] [(2,4),(6,76)] ((fun n x w=>K_3f K n x.1 x.2.1 x.2.2.1 x.2.2.2.1 x.2.2.2.2.1 w) n) (.block 0 (.loop (cd (bodyOf f35) [1,1,1,1,0,1,0,0]))):=
    K_7g (O:=tabL [([1,1,1,1,0,1,0,0,1,0,0,0,0],K_a8 K),([1,1,1,1,0,1,0,0,1,0,0,1,1,0,1],K_a3 K),([1,1,1,1,0,1,0,0,1,0,0,1,1,0,1,0,0,1,0,0,1,1,0,1],K_75 K),([1,1,1,1,0,1,0,0,1,0,0,1,1,0,1,0,0,1,0,0,1,1,1,1,0,1],K_76 K)]) (root:=(bodyOf f35)) (π:=[1,1,1,1,0,1,0,0]) (Li:=[(0,.str),(4,.str),(5,.str),(6,.sl),(7,.int .i64)]) (Lo:=[(6,.sl)]) (Lr:=[(2,.sl),(3,.bool)]) (S:=(fun n x w=>K_3f K n x.1 x.2.1 x.2.2.1 x.2.2.2.1 x.2.2.2.2.1 w)) (K_54 K) (K_50 K) rfl (Orc.cons (by kernel_rfl) (K_cc K [(2,4),(6,76)] (by kernel_rfl)) (Orc.cons (by kernel_rfl) (K_cg K [(2,4),(6,76)] (by kernel_rfl)) (Orc.cons (by kernel_rfl) (K_8c K [(2,4),(6,76)] (by kernel_rfl)) (Orc.cons (by kernel_rfl) (K_82 K [(2,4),(6,76)] (by kernel_rfl)) (Orc.nil _ _ _))))) (by kernel_rfl) (fun _ _=>by kernel_rfl) (fun _ _ _=>by kernel_rfl) n
noncomputable def K_f9 (K:Nat):SE:=stmt [(0,.str),(4,.str),(5,.str),(6,.sl),(7,.int .i64)] [(6,.sl)] [(2,.sl),(3,.bool)] [(2,4),(6,76)] (fun x w=>K_3f K K x.1 x.2.1 x.2.2.1 x.2.2.2.1 x.2.2.2.2.1 w)
theorem K_lf(K:Nat)(R:Rg)(h:subRB [(2,4),(6,76)] R=true):(K_f9 K).Ok prog R (.block 0 (.loop (cd (bodyOf f35) [1,1,1,1,0,1,0,0]))):=K_5z (K_q2 K K) (K_1 h)
theorem K_f3:FunFacts prog 35 f35 (bodyOf f35) [(0,.str)] [(0,81)]:=⟨func35,by kernel_rfl,by kernel_rfl,by kernel_rfl,by kernel_rfl,by kernel_rfl⟩
theorem K_ph(K:Nat)(x:TT [(0,.str)])(w:World)(y:TR [.sl,.bool])(w2:World)(h:K_5s K x.1 w=some (y,w2)):Calls prog 35 (encA [(0,.str)] x).toArray w (fun e w3=>e= .returned (resV (encR [.sl,.bool] y))∧w3=w2):=
    K_h (O:=tabL [([1,1,1,1,0,1],K_f9 K),([1,1,1,1,0,1,0,0,1,0,0,0,0],K_a8 K),([1,1,1,1,0,1,0,0,1,0,0,1,1,0,1],K_a3 K),([1,1,1,1,0,1,0,0,1,0,0,1,1,0,1,0,0,1,0,0,1,1,0,1],K_75 K),([1,1,1,1,0,1,0,0,1,0,0,1,1,0,1,0,0,1,0,0,1,1,1,1,0,1],K_76 K)]) (Lp:=[(0,.str)]) (Rt:=[.sl,.bool]) (S:=(fun x w=>K_5s K x.1 w)) (K_54 K) (K_50 K) rfl K_f3 (Orc.cons (by kernel_rfl) (K_lf K [(0,81)] (by kernel_rfl)) (Orc.cons (by kernel_rfl) (K_cc K [(0,81)] (by kernel_rfl)) (Orc.cons (by kernel_rfl) (K_cg K [(0,81)] (by kernel_rfl)) (Orc.cons (by kernel_rfl) (K_8c K [(0,81)] (by kernel_rfl)) (Orc.cons (by kernel_rfl) (K_82 K [(0,81)] (by kernel_rfl)) (Orc.nil _ _ _)))))) (fun _ _=>by kernel_rfl) x w y w2 h
noncomputable def K_jk (K:Nat):CE:=funE [(0,.str)] [.sl,.bool] (fun x w=>K_5s K x.1 w)
theorem K_u0(K:Nat):(K_jk K).Ok prog 35:=K_b K_f3 fun x w y w2 h=>K_ph K x w y w2 h
noncomputable def K_pt (K:Nat):List (Nat×CE):=[(32,K_d2 K),(33,K_mf K),(35,K_jk K)]
theorem K_1u(K:Nat):Env.Ok prog (tab (K_pt K)):=(Env.cons (K_n8 K) (Env.cons (K_vk K) (Env.cons (K_u0 K) (Env.nil _))))
noncomputable def K_pu (K:Nat):List (Nat×RE):=[(12,K_cl)]
theorem K_1w(K:Nat):REnv.Ok prog (tab (K_pu K)):=(REnv.cons (K_gq) (REnv.nil _))
noncomputable def K_22 {β:Type} (K:Nat) (a4:Addr) (b5:Addr) (w:World) (k:(Unit)→World→Option β):Option β:=
  (ldS (b5.add 1) w.drew).bind fun v_11=>
  (ldS (a4.add 1) w.drew).bind fun v_12=>
  allB [(bnd (bldS prog 23 0 #[] w.drew) fun s_13 w_14=>
  (ldS (a4.add 1) w_14).bind fun v_15=>
  sameK (.slice v_12.a v_12.len v_12.cap) (.slice v_15.a v_15.len v_15.cap) ((ldS (b5.add 1) w_14).bind fun v_16=>
  sameK (.slice v_11.a v_11.len v_11.cap) (.slice v_16.a v_16.len v_16.cap) ((K_1b v_11 64).bind fun r_17=>
  (ldS (a4.add 1) w_14).bind fun v_18=>
  sameK (.slice v_12.a v_12.len v_12.cap) (.slice v_18.a v_18.len v_18.cap) (bnd (apd prog 23 23 (.slice s_13.a s_13.len s_13.cap) (.slice r_17.1.a r_17.1.len r_17.1.cap) w_14) fun s_19 w_20=>
  (ldS (a4.add 1) w_20).bind fun v_21=>
  sameK (.slice v_12.a v_12.len v_12.cap) (.slice v_21.a v_21.len v_21.cap) ((K_1b v_12 64).bind fun r_22=>
  bnd (apd prog 23 23 (.slice s_19.a s_19.len s_19.cap) (.slice r_22.1.a r_22.1.len r_22.1.cap) w_20) fun s_23 w_24=>
  (stC (b5.add 1) (.slice s_23.a s_23.len s_23.cap) w_24).bind fun w_25=>
  k () w_25))))),
   ((K_1b v_11 64).bind fun r_26=>
  (ldS (a4.add 1) w.drew).bind fun v_27=>
  sameK (.slice v_12.a v_12.len v_12.cap) (.slice v_27.a v_27.len v_27.cap) (bnd (bldS prog 23 0 #[] w.drew) fun s_28 w_29=>
  (ldS (a4.add 1) w_29).bind fun v_30=>
  sameK (.slice v_12.a v_12.len v_12.cap) (.slice v_30.a v_30.len v_30.cap) (bnd (apd prog 23 23 (.slice s_28.a s_28.len s_28.cap) (.slice r_26.1.a r_26.1.len r_26.1.cap) w_29) fun s_31 w_32=>
  (ldS (a4.add 1) w_32).bind fun v_33=>
  sameK (.slice v_12.a v_12.len v_12.cap) (.slice v_33.a v_33.len v_33.cap) ((K_1b v_12 64).bind fun r_34=>
  bnd (apd prog 23 23 (.slice s_31.a s_31.len s_31.cap) (.slice r_34.1.a r_34.1.len r_34.1.cap) w_32) fun s_35 w_36=>
  (stC (b5.add 1) (.slice s_35.a s_35.len s_35.cap) w_36).bind fun w_37=>
  k () w_37))))]
noncomputable def K_4o (K:Nat) (a4:Addr) (b5:Addr) (a41:Bool) (w:World):Option ((Unit)×World):=
  if a41=true then((ldS (b5.add 1) w.drew).bind fun v_42=>
  (ldS (a4.add 1) w.drew).bind fun v_43=>
  (K_1b v_43 64).bind fun r_44=>
  if (0:Int)≤((r_44.1.len:Nat):Int)∧((r_44.1.len:Nat):Int)≤((v_42.cap:Nat):Int) then((stC (b5.add 1) (.slice (sla v_42.a 0 v_42.cap 1) ((Int.toNat (((r_44.1.len:Nat):Int))) - 0) (v_42.cap - 0)) w.drew).bind fun w_45=>
  some ((),w_45)) else none) else(some ((),w))
noncomputable def K_4r (K:Nat) (ok11:Bool) (also14:Bool) (w:World):Option ((Bool×Unit)×World):=
  bnd (K_9k K w) fun r_54 w_55=>
  if (!r_54.1)=true then(some ((true,()),w_55)) else(if (!ok11)=true then(some ((true,()),w_55)) else(some (((!also14),()),w_55)))
noncomputable def K_24 (K:Nat) (x15:Sl) (well16:Bool) (y17:Sl) (fine18:Bool) (w:World):Option ((Bool×Unit)×World):=
  if (!well16)=true then(some ((true,()),w)) else(if (!fine18)=true then(some ((true,()),w)) else(some (((((x15.len:Nat):Int) != ((y17.len:Nat):Int)),()),w)))
noncomputable def K_4m (K:Nat) (a8:Bool) (well16:Bool) (fine18:Bool) (w:World):Option ((Bool×Unit)×World):=
  if well16=true then(some ((fine18,()),w)) else(some ((false,()),w))
noncomputable def K_1k (K:Nat) (rec:Sl→Sl→Int→Int→World→Option ((Int×Unit)×World)) (x15:Sl) (y17:Sl) (differ19:Int) (j20:Int) (w:World):Option ((Int×Unit)×World):=
  if (decide (j20<((x15.len:Nat):Int)))=true then((x15.a).bind fun p_70=>
  if (0:Int)≤j20∧j20<((x15.len:Nat):Int) then((y17.a).bind fun p_71=>
  if (0:Int)≤j20∧j20<((y17.len:Nat):Int) then((ldI .u8 (p_70.add ((Int.toNat j20)*1)) w.drew).bind fun v_72=>
  (ldI .u8 (p_71.add ((Int.toNat j20)*1)) w.drew).bind fun v_73=>
  if (v_72 != v_73)=true then(rec x15 y17 (IntKind.i64.wrap (differ19+1)) (IntKind.i64.wrap (j20+1)) w.drew) else(rec x15 y17 differ19 (IntKind.i64.wrap (j20+1)) w.drew)) else none) else none) else(some ((differ19,()),w))
noncomputable def K_11 (K:Nat) (n:Nat):Sl→Sl→Int→Int→World→Option ((Int×Unit)×World):=iter (fun _ _ _ _ _=>none) (K_1k K) n
noncomputable def K_8z {β:Type} (K:Nat) (a0:Array Value) (b1:Array Value) (i2:Int) (k3:Int) (w:World) (k:(Bool×Unit)→World→Option β):Option β:=
  bnd (newB a0 25 w) fun p_1 w_2=>
  bnd (newB b1 25 w_2) fun p_3 w_4=>
  (ldA 6 p_1 w_4).bind fun v_5=>
  bnd (K_2v K v_5 w_4) fun r_6 w_7=>
  bnd (newB z25 25 w_7) fun x_8 w_9=>
  if (r_6.1).size=6 then((stA x_8 r_6.1 w_9).bind fun w_10=>
  K_22 K p_1 p_3 w_10 fun y_38 w_39=>
  (ldS (p_1.add 1) w_39).bind fun v_40=>
  (K_1b v_40 64).bind fun r_41=>
  bnd (K_4o K p_1 p_3 (decide (((r_41.1.len:Nat):Int) > 0)) w_39) fun y_46 w_47=>
  (ldA 6 p_3 w_47).bind fun v_48=>
  bnd (K_2v K v_48 w_47) fun r_49 w_50=>
  bnd (newB z25 25 w_50) fun x_51 w_52=>
  if (r_49.1).size=6 then((stA x_51 r_49.1 w_52).bind fun w_53=>
  bnd (K_4r K r_6.2.2.1 r_49.2.2.1 w_53) fun y_56 w_57=>
  if y_56.1=true then(k (false,()) w_57) else(if (IntKind.u64.wrap ((r_6.2.1.len:Nat):Int))≠0 then((r_6.2.1.a).bind fun p_58=>
  if (0:Int)≤(IntKind.i64.wrap (Int.tmod (IntKind.u64.wrap i2) (IntKind.u64.wrap ((r_6.2.1.len:Nat):Int))))∧(IntKind.i64.wrap (Int.tmod (IntKind.u64.wrap i2) (IntKind.u64.wrap ((r_6.2.1.len:Nat):Int))))<((r_6.2.1.len:Nat):Int) then((ldStr (p_58.add ((Int.toNat (IntKind.i64.wrap (Int.tmod (IntKind.u64.wrap i2) (IntKind.u64.wrap ((r_6.2.1.len:Nat):Int)))))*1)) w_57).bind fun v_59=>
  bnd (K_5s K v_59 w_57) fun r_60 w_61=>
  if (IntKind.u64.wrap ((r_49.2.1.len:Nat):Int))≠0 then((r_49.2.1.a).bind fun p_62=>
  if (0:Int)≤(IntKind.i64.wrap (Int.tmod (IntKind.u64.wrap k3) (IntKind.u64.wrap ((r_49.2.1.len:Nat):Int))))∧(IntKind.i64.wrap (Int.tmod (IntKind.u64.wrap k3) (IntKind.u64.wrap ((r_49.2.1.len:Nat):Int))))<((r_49.2.1.len:Nat):Int) then((ldStr (p_62.add ((Int.toNat (IntKind.i64.wrap (Int.tmod (IntKind.u64.wrap k3) (IntKind.u64.wrap ((r_49.2.1.len:Nat):Int)))))*1)) w_61).bind fun v_63=>
  bnd (K_5s K v_63 w_61) fun r_64 w_65=>
  bnd (K_24 K r_60.1 r_60.2.1 r_64.1 r_64.2.1 w_65) fun y_66 w_67=>
  if y_66.1=true then(bnd (K_4m K false r_60.2.1 r_64.2.1 w_67) fun y_68 w_69=>
  k (y_68.1,()) w_69) else(bnd (K_11 K K r_60.1 r_64.1 0 0 w_67) fun y_74 w_75=>
  if (y_74.1 == 0)=true then(k (true,()) w_75) else(k ((decide (y_74.1≥5)),()) w_75))) else none) else none) else none) else none)) else none) else none
theorem K_k9(K:Nat):StmtCOk prog [(4,.addr),(5,.addr)] [] [(27,37)] (fun {_} x w k=>K_22 K x.1 x.2.1 w k) (cd (bodyOf f6) [1,1,0]):=
    K_y2 (R:=[(27,37)]) (Li:=[(4,.addr),(5,.addr)]) (Lo:=[]) (S:=(fun {_} x w k=>K_22 K x.1 x.2.1 w k)) (K_1u K) (K_1w K) rfl (fun _ _ _=>by kernel_rfl)
noncomputable def K_bi (K:Nat):SE:=stmtC [(4,.addr),(5,.addr)] [] [(27,37)] (fun {_} x w k=>K_22 K x.1 x.2.1 w k)
theorem K_g9(K:Nat)(R:Rg)(h:subRB [(27,37)] R=true):(K_bi K).Ok prog R (cd (bodyOf f6) [1,1,0]):=K_137 (Li:=[(4,.addr),(5,.addr)]) (Lo:=[]) (S:=(fun {_} x w k=>K_22 K x.1 x.2.1 w k)) (K_k9 K) (K_1 h)
theorem K_jc(K:Nat):StmtNOk prog [(4,.addr),(5,.addr),(41,.bool)] [] [(42,50)] (fun x w=>K_4o K x.1 x.2.1 x.2.2.1 w) (cd (bodyOf f6) [1,1,1,0,1]):=
    K_y (O:=tabL []) (root:=(bodyOf f6)) (π:=[1,1,1,0,1]) (K_1u K) (K_1w K) rfl (Orc.nil _ _ _) (by kernel_rfl) (fun _ _=>by kernel_rfl)
noncomputable def K_bq (K:Nat):SE:=stmtN [(4,.addr),(5,.addr),(41,.bool)] [] [(42,50)] (fun x w=>K_4o K x.1 x.2.1 x.2.2.1 w)
theorem K_g8(K:Nat)(R:Rg)(h:subRB [(42,50)] R=true):(K_bq K).Ok prog R (cd (bodyOf f6) [1,1,1,0,1]):=K_2 (K_jc K) (K_1 h)
theorem K_jq(K:Nat):StmtNOk prog [(11,.bool),(14,.bool)] [(65,.bool)] [(56,66)] (fun x w=>K_4r K x.1 x.2.1 w) (cd (bodyOf f6) [1,1,1,1,1,0,0]):=
    K_y (O:=tabL []) (root:=(bodyOf f6)) (π:=[1,1,1,1,1,0,0]) (K_1u K) (K_1w K) rfl (Orc.nil _ _ _) (by kernel_rfl) (fun _ _=>by kernel_rfl)
noncomputable def K_bx (K:Nat):SE:=stmtN [(11,.bool),(14,.bool)] [(65,.bool)] [(56,66)] (fun x w=>K_4r K x.1 x.2.1 w)
theorem K_g5(K:Nat)(R:Rg)(h:subRB [(56,66)] R=true):(K_bx K).Ok prog R (cd (bodyOf f6) [1,1,1,1,1,0,0]):=K_2 (K_jq K) (K_1 h)
theorem K_ke(K:Nat):StmtNOk prog [(15,.sl),(16,.bool),(17,.sl),(18,.bool)] [(106,.bool)] [(94,107)] (fun x w=>K_24 K x.1 x.2.1 x.2.2.1 x.2.2.2.1 w) (cd (bodyOf f6) [1,1,1,1,1,1,1,1,0,0]):=
    K_y (O:=tabL []) (root:=(bodyOf f6)) (π:=[1,1,1,1,1,1,1,1,0,0]) (K_1u K) (K_1w K) rfl (Orc.nil _ _ _) (by kernel_rfl) (fun _ _=>by kernel_rfl)
noncomputable def K_b6 (K:Nat):SE:=stmtN [(15,.sl),(16,.bool),(17,.sl),(18,.bool)] [(106,.bool)] [(94,107)] (fun x w=>K_24 K x.1 x.2.1 x.2.2.1 x.2.2.2.1 w)
theorem K_h6(K:Nat)(R:Rg)(h:subRB [(94,107)] R=true):(K_b6 K).Ok prog R (cd (bodyOf f6) [1,1,1,1,1,1,1,1,0,0]):=K_2 (K_ke K) (K_1 h)
theorem K_jx(K:Nat):StmtNOk prog [(8,.bool),(16,.bool),(18,.bool)] [(8,.bool)] [(8,9),(107,111)] (fun x w=>K_4m K x.1 x.2.1 x.2.2.1 w) (cd (bodyOf f6) [1,1,1,1,1,1,1,1,0,1,0,0]):=
    K_y (O:=tabL []) (root:=(bodyOf f6)) (π:=[1,1,1,1,1,1,1,1,0,1,0,0]) (K_1u K) (K_1w K) rfl (Orc.nil _ _ _) (by kernel_rfl) (fun _ _=>by kernel_rfl)
noncomputable def K_bn (K:Nat):SE:=stmtN [(8,.bool),(16,.bool),(18,.bool)] [(8,.bool)] [(8,9),(107,111)] (fun x w=>K_4m K x.1 x.2.1 x.2.2.1 w)
theorem K_gj(K:Nat)(R:Rg)(h:subRB [(8,9),(107,111)] R=true):(K_bn K).Ok prog R (cd (bodyOf f6) [1,1,1,1,1,1,1,1,0,1,0,0]):=K_2 (K_jx K) (K_1 h)
theorem K_jv(K:Nat)(n:Nat):StmtNOk prog [(15,.sl),(17,.sl),(19,.int .i64),(20,.int .i64)] [(19,.int .i64)] [(19,21),(111,128)] ((fun n x w=>K_11 K n x.1 x.2.1 x.2.2.1 x.2.2.2.1 w) n) (.block 0 (.loop (cd (bodyOf f6) [1,1,1,1,1,1,1,1,1,1,0,1,0,0]))):=
    K_9 (O:=tabL []) (root:=(bodyOf f6)) (π:=[1,1,1,1,1,1,1,1,1,1,0,1,0,0]) (Li:=[(15,.sl),(17,.sl),(19,.int .i64),(20,.int .i64)]) (Lo:=[(19,.int .i64)]) (S:=(fun n x w=>K_11 K n x.1 x.2.1 x.2.2.1 x.2.2.2.1 w)) (K_1u K) (K_1w K) rfl (Orc.nil _ _ _) (by kernel_rfl) (fun _ _=>by kernel_rfl) (fun _ _ _=>by kernel_rfl) n
noncomputable def K_bl (K:Nat):SE:=stmtN [(15,.sl),(17,.sl),(19,.int .i64),(20,.int .i64)] [(19,.int .i64)] [(19,21),(111,128)] (fun x w=>K_11 K K x.1 x.2.1 x.2.2.1 x.2.2.2.1 w)
theorem K_gt(K:Nat)(R:Rg)(h:subRB [(19,21),(111,128)] R=true):(K_bl K).Ok prog R (.block 0 (.loop (cd (bodyOf f6) [1,1,1,1,1,1,1,1,1,1,0,1,0,0]))):=K_2 (K_jv K K) (K_1 h)
theorem K_k7:FunFacts prog 6 f6 (bodyOf f6) [(0,.agg),(1,.agg),(2,.int .i64),(3,.int .i64)] [(0,134)]:=⟨func6,by kernel_rfl,by kernel_rfl,by kernel_rfl,by kernel_rfl,by kernel_rfl⟩
theorem K_ju(K:Nat){β:Type}(x:TT [(0,.agg),(1,.agg),(2,.int .i64),(3,.int .i64)])(w:World)(k:TR [.bool]→World→Option β)(r:β)(h:K_8z K x.1 x.2.1 x.2.2.1 x.2.2.2.1 w k=some r):Calls prog 6 (encA [(0,.agg),(1,.agg),(2,.int .i64),(3,.int .i64)] x).toArray w (fun e w3=>∃ y,e= .returned (resV (encR [.bool] y))∧k y w3=some r):=
    K_14g (O:=tabL [([1,1,0],K_bi K),([1,1,1,0,1],K_bq K),([1,1,1,1,1,0,0],K_bx K),([1,1,1,1,1,1,1,1,0,0],K_b6 K),([1,1,1,1,1,1,1,1,0,1,0,0],K_bn K),([1,1,1,1,1,1,1,1,1,1,0,1],K_bl K)]) (Lp:=[(0,.agg),(1,.agg),(2,.int .i64),(3,.int .i64)]) (Rt:=[.bool]) (S:=(fun x w k=>K_8z K x.1 x.2.1 x.2.2.1 x.2.2.2.1 w k)) (K_1u K) (K_1w K) rfl K_k7 (Orc.cons (by kernel_rfl) (K_g9 K [(0,134)] (by kernel_rfl)) (Orc.cons (by kernel_rfl) (K_g8 K [(0,134)] (by kernel_rfl)) (Orc.cons (by kernel_rfl) (K_g5 K [(0,134)] (by kernel_rfl)) (Orc.cons (by kernel_rfl) (K_h6 K [(0,134)] (by kernel_rfl)) (Orc.cons (by kernel_rfl) (K_gj K [(0,134)] (by kernel_rfl)) (Orc.cons (by kernel_rfl) (K_gt K [(0,134)] (by kernel_rfl)) (Orc.nil _ _ _))))))) (fun _ _ _=>by kernel_rfl) x w k r h
end Go.Sh

namespace Go.Sh
open Go.Fw Go.Proofs.Tryd
end Go.Sh

namespace Go.Sh
open Go.Fw Go.Proofs.Tryd
end Go.Sh
