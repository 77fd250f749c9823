/- Texts of this claim, put together: Sh12, Sh13, Sh14 -/
import Derived.Test.YteomkfcfhlljkaaDoorAllShgoflgf
set_option maxRecDepth 100000
set_option linter.unusedVariables false
namespace Go.Sh
open Go.Fw Go.Proofs.Tryd
noncomputable def K_x2 (K:Nat):List (Nat×CE):=[(16,K_dy K),(28,K_l7 K),(30,K_fx K)]
theorem K_k6(K:Nat):Env.Ok prog (tab (K_x2 K)):=(Env.cons (K_ku K) (Env.cons (K_u6 K) (Env.cons (K_qf K) (Env.nil _))))
noncomputable def K_xl (K:Nat):List (Nat×RE):=[(19,K_ch)]
theorem K_jn(K:Nat):REnv.Ok prog (tab (K_xl K)):=(REnv.cons (K_gv) (REnv.nil _))
noncomputable def K_8i (K:Nat) (l1:Sl) (e2:Int) (w:World):Option ((Bool×Unit)×World):=
 (K_19 e2).bind fun r_7=>
 if (r_7.1 != 0)=true then(some ((true,()),w)) else(some (((((l1.len:Nat):Int) != 3),()),w))
noncomputable def K_9w (K:Nat) (w:World):Option ((Bool×Unit)×World):=
 bnd (bldS prog 23 3 #[(0,(.int .u8 1)),(1,(.int .u8 2)),(2,(.int .u8 3))] w) fun s_1 w_2=>
 bnd (bldS prog 23 7 #[(0,(.int .u8 9)),(1,(.int .u8 8)),(2,(.int .u8 7)),(3,(.int .u8 6)),(4,(.int .u8 5)),(5,(.int .u8 4)),(6,(.int .u8 3))] w_2) fun s_3 w_4=>
 bnd (K_5x K 7 s_1 2 3 s_3 w_4) fun r_5 w_6=>
 bnd (K_8i K r_5.1 r_5.2.1 w_6) fun y_8 w_9=>
 if y_8.1=true then(some ((false,()),w_9)) else((r_5.1.a).bind fun p_10=>
 if (0:Int)≤2∧2<((r_5.1.len:Nat):Int) then((r_5.1.a).bind fun p_11=>
 if (0:Int)≤0∧0<((r_5.1.len:Nat):Int) then((ldStr (p_10.add (2*1)) w_9.drew).bind fun v_12=>
 (ldStr (p_11.add (0*1)) w_9.drew).bind fun v_13=>
 bnd (bldS prog 29 2 #[(0,(.string v_12)),(1,(.string v_13))] w_9.drew) fun s_14 w_15=>
 bnd (K_4j K s_14 w_15) fun r_16 w_17=>
 (r_5.1.a).bind fun p_18=>
 if (0:Int)≤1∧1<((r_5.1.len:Nat):Int) then((ldStr (p_18.add (1*1)) w_17).bind fun v_19=>
 bnd (bldS prog 29 1 #[(0,(.string v_19))] w_17) fun s_20 w_21=>
 bnd (K_4j K s_20 w_21) fun r_22 w_23=>
 (K_19 r_16.2.1).bind fun r_24=>
 if (r_24.1 == 0)=true then(bnd (bldS prog 23 3 #[(0,(.int .u8 1)),(1,(.int .u8 2)),(2,(.int .u8 3))] w_23) fun s_25 w_26=>
 bnd (K_4e K r_16.1 s_25 w_26) fun r_27 w_28=>
 if r_27.1=true then((K_19 r_22.2.1).bind fun r_29=>
 some (((r_29.1 == 114),()),w_28)) else(some ((false,()),w_28))) else(some ((false,()),w_23))) else none) else none) else none)
theorem K_s6(K:Nat):StmtNOk prog [(1,.sl),(2,.int .i64)] [(20,.bool)] [(13,21)] (fun x w=>K_8i K x.1 x.2.1 w) (cd (bodyOf f33) [1,1,0,0]):=
  K_17 (O:=tabL []) (root:=(bodyOf f33)) (π:=[1,1,0,0]) (K_k6 K) (K_jn K) rfl (Orc.nil _ _ _) (by kernel_rfl) (fun _ _=>by kernel_rfl)
noncomputable def K_ht (K:Nat):SE:=stmtN [(1,.sl),(2,.int .i64)] [(20,.bool)] [(13,21)] (fun x w=>K_8i K x.1 x.2.1 w)
theorem K_o8(K:Nat)(R:Rg)(h:subRB [(13,21)] R=true):(K_ht K).Ok prog R (cd (bodyOf f33) [1,1,0,0]):=K_2 (K_s6 K) (K_1 h)
theorem K_gt:FunFacts prog 33 f33 (bodyOf f33) [] [(0,53)]:=⟨func33,by kernel_rfl,by kernel_rfl,by kernel_rfl,by kernel_rfl,by kernel_rfl⟩
theorem K_s9(K:Nat)(x:TT [])(w:World)(y:TR [.bool])(w2:World)(h:K_9w K w=some (y,w2)):Calls prog 33 (encA [] x).toArray w (fun e w3=>e= .returned (resV (encR [.bool] y))∧w3=w2):=
  K_f (O:=tabL [([1,1,0,0],K_ht K)]) (Lp:=[]) (Rt:=[.bool]) (S:=(fun x w=>K_9w K w)) (K_k6 K) (K_jn K) rfl K_gt (Orc.cons (by kernel_rfl) (K_o8 K [(0,53)] (by kernel_rfl)) (Orc.nil _ _ _)) (fun _ _=>by kernel_rfl) x w y w2 h
noncomputable def K_n3 (K:Nat):CE:=funE [] [.bool] (fun x w=>K_9w K w)
theorem K_we(K:Nat):(K_n3 K).Ok prog 33:=K_b K_gt fun x w y w2 h=>K_s9 K x w y w2 h
noncomputable def K_wc (K:Nat):List (Nat×CE):=[]
theorem K_56(K:Nat):Env.Ok prog (tab (K_wc K)):=(Env.nil _)
noncomputable def K_wk (K:Nat):List (Nat×RE):=[]
theorem K_50(K:Nat):REnv.Ok prog (tab (K_wk K)):=(REnv.nil _)
noncomputable def K_7c (K:Nat) (line0:ByteArray) (i7:Int) (w:World):Option ((Bool×Unit)×World):=
 if (decide ((IntKind.i64.wrap (i7+5)) > ((line0.size:Nat):Int)))=true then(some ((true,()),w)) else(if (decide (i7 > 0))=true then(if (0:Int)≤(IntKind.i64.wrap (i7 - 1)) then((line0[(Int.toNat (IntKind.i64.wrap (i7 - 1)))]?).bind fun b_1=>
 some (((((b_1.toNat:Nat):Int) != 32),()),w)) else none) else(some ((false,()),w)))
noncomputable def K_7u (K:Nat) (vow5:ByteArray) (set10:ByteArray) (bits11:Int) (a43:Bool) (w:World):Option ((ByteArray×Int×Unit)×World):=
 if a43=true then(some ((vow5,4,()),w)) else(some ((set10,bits11,()),w))
noncomputable def K_61 (K:Nat) (rec:ByteArray→ByteArray→ByteArray→Sl→Int→Int→Int→ByteArray→Int→Int→Int→World→Option ((Int×Unit)×World)) (line0:ByteArray) (con4:ByteArray) (vow5:ByteArray) (out6:Sl) (i7:Int) (v8:Int) (k9:Int) (set10:ByteArray) (bits11:Int) (at12:Int) (j13:Int) (w:World):Option ((Int×Unit)×World):=
 if (decide (j13<bits11))=true then(if (0:Int)≤j13 then((set10[(Int.toNat j13)]?).bind fun b_6=>
 if (0:Int)≤(IntKind.i64.wrap (i7+k9)) then((line0[(Int.toNat (IntKind.i64.wrap (i7+k9)))]?).bind fun b_7=>
 if (((b_6.toNat:Nat):Int) == ((b_7.toNat:Nat):Int))=true then(rec line0 con4 vow5 out6 i7 v8 k9 set10 bits11 j13 (IntKind.i64.wrap (j13+1)) w.drew) else(rec line0 con4 vow5 out6 i7 v8 k9 set10 bits11 at12 (IntKind.i64.wrap (j13+1)) w.drew)) else none) else none) else(some ((at12,()),w))
noncomputable def K_31 (K:Nat) (n:Nat):ByteArray→ByteArray→ByteArray→Sl→Int→Int→Int→ByteArray→Int→Int→Int→World→Option ((Int×Unit)×World):=iter (fun _ _ _ _ _ _ _ _ _ _ _ _=>none) (K_61 K) n
noncomputable def K_6a (K:Nat) (rec:ByteArray→ByteArray→ByteArray→Sl→Int→Int→Int→World→Option ((Out (Int×Unit) (Sl×Bool×Unit))×World)) (line0:ByteArray) (con4:ByteArray) (vow5:ByteArray) (out6:Sl) (i7:Int) (v8:Int) (k9:Int) (w:World):Option ((Out (Int×Unit) (Sl×Bool×Unit))×World):=
 if (decide (k9<5))=true then(bnd (K_7u K vow5 con4 16 ((Int.tmod k9 2) == 1) w) fun y_4 w_5=>
 bnd (K_31 K K line0 con4 vow5 out6 i7 v8 k9 y_4.1 y_4.2.1 (-1) 0 w_5) fun y_8 w_9=>
 if (decide (y_8.1<0))=true then(some (.ret (⟨none,0,0⟩,false,()),w_9)) else(rec line0 con4 vow5 out6 i7 (IntKind.i64.wrap ((IntKind.i64.wrap (v8*y_4.2.1))+y_8.1)) (IntKind.i64.wrap (k9+1)) w_9)) else(some (.norm (v8,()),w))
noncomputable def K_30 (K:Nat) (n:Nat):ByteArray→ByteArray→ByteArray→Sl→Int→Int→Int→World→Option ((Out (Int×Unit) (Sl×Bool×Unit))×World):=iter (fun _ _ _ _ _ _ _ _=>none) (K_6a K) n
noncomputable def K_63 (K:Nat) (rec:ByteArray→ByteArray→ByteArray→Sl→Int→World→Option ((Out (Sl×Unit) (Sl×Bool×Unit))×World)) (line0:ByteArray) (con4:ByteArray) (vow5:ByteArray) (out6:Sl) (i7:Int) (w:World):Option ((Out (Sl×Unit) (Sl×Bool×Unit))×World):=
 if (decide (i7<((line0.size:Nat):Int)))=true then(bnd (K_7c K line0 i7 w) fun y_2 w_3=>
 if y_2.1=true then(some (.ret (⟨none,0,0⟩,false,()),w_3)) else(bnd (K_30 K K line0 con4 vow5 out6 i7 0 0 w_3) fun y_10 w_11=>
 (match y_10 with
 | .norm z_12n=>(bnd (bldS prog 23 2 #[(0,(.int .u8 (IntKind.u8.wrap (IntKind.i64.wrap (Int.tdiv z_12n.1 256))))),(1,(.int .u8 (IntKind.u8.wrap (Int.tmod z_12n.1 256))))] w_11) fun s_13 w_14=>
 bnd (apd prog 23 23 (.slice out6.a out6.len out6.cap) (.slice s_13.a s_13.len s_13.cap) w_14) fun s_15 w_16=>
 rec line0 con4 vow5 s_15 (IntKind.i64.wrap (i7+6)) w_16)
 | .ret z_12r=>(some (.ret (z_12r.1,z_12r.2.1,()),w_11))))) else(some (.norm (out6,()),w))
noncomputable def K_34 (K:Nat) (n:Nat):ByteArray→ByteArray→ByteArray→Sl→Int→World→Option ((Out (Sl×Unit) (Sl×Bool×Unit))×World):=iter (fun _ _ _ _ _ _=>none) (K_63 K) n
noncomputable def K_5u (K:Nat) (line0:ByteArray) (w:World):Option ((Sl×Bool×Unit)×World):=
 bnd (K_34 K K line0 str1 str2 ⟨none,0,0⟩ 0 w) fun y_17 w_18=>
 (match y_17 with
 | .norm z_19n=>(some ((z_19n.1,((Int.tmod ((line0.size:Nat):Int) 6) == 5),()),w_18))
 | .ret z_19r=>(some ((z_19r.1,z_19r.2.1,()),w_18)))
theorem K_qk(K:Nat):StmtNOk prog [(0,.str),(7,.int .i64)] [(35,.bool)] [(20,36)] (fun x w=>K_7c K x.1 x.2.1 w) (cd (bodyOf f35) [1,1,1,1,0,1,0,0,1,0,0,0,0]):=
  K_17 (O:=tabL []) (root:=(bodyOf f35)) (π:=[1,1,1,1,0,1,0,0,1,0,0,0,0]) (K_56 K) (K_50 K) rfl (Orc.nil _ _ _) (by kernel_rfl) (fun _ _=>by kernel_rfl)
noncomputable def K_an (K:Nat):SE:=stmtN [(0,.str),(7,.int .i64)] [(35,.bool)] [(20,36)] (fun x w=>K_7c K x.1 x.2.1 w)
theorem K_ce(K:Nat)(R:Rg)(h:subRB [(20,36)] R=true):(K_an K).Ok prog R (cd (bodyOf f35) [1,1,1,1,0,1,0,0,1,0,0,0,0]):=K_2 (K_qk K) (K_1 h)
theorem K_qg(K:Nat):StmtNOk prog [(5,.str),(10,.str),(11,.int .i64),(43,.bool)] [(10,.str),(11,.int .i64)] [(10,12),(44,45)] (fun x w=>K_7u K x.1 x.2.1 x.2.2.1 x.2.2.2.1 w) (cd (bodyOf f35) [1,1,1,1,0,1,0,0,1,0,0,1,1,0,1,0,0,1,0,0,1,1,0,1]):=
  K_17 (O:=tabL []) (root:=(bodyOf f35)) (π:=[1,1,1,1,0,1,0,0,1,0,0,1,1,0,1,0,0,1,0,0,1,1,0,1]) (K_56 K) (K_50 K) rfl (Orc.nil _ _ _) (by kernel_rfl) (fun _ _=>by kernel_rfl)
noncomputable def K_77 (K:Nat):SE:=stmtN [(5,.str),(10,.str),(11,.int .i64),(43,.bool)] [(10,.str),(11,.int .i64)] [(10,12),(44,45)] (fun x w=>K_7u K x.1 x.2.1 x.2.2.1 x.2.2.2.1 w)
theorem K_81(K:Nat)(R:Rg)(h:subRB [(10,12),(44,45)] R=true):(K_77 K).Ok prog R (cd (bodyOf f35) [1,1,1,1,0,1,0,0,1,0,0,1,1,0,1,0,0,1,0,0,1,1,0,1]):=K_2 (K_qg K) (K_1 h)
theorem K_qn(K:Nat)(n:Nat):StmtNOk prog [(0,.str),(4,.str),(5,.str),(6,.sl),(7,.int .i64),(8,.int .i64),(9,.int .i64),(10,.str),(11,.int .i64),(12,.int .i64),(13,.int .i64)] [(12,.int .i64)] [(12,14),(45,60)] ((fun n x w=>K_31 K n x.1 x.2.1 x.2.2.1 x.2.2.2.1 x.2.2.2.2.1 x.2.2.2.2.2.1 x.2.2.2.2.2.2.1 x.2.2.2.2.2.2.2.1 x.2.2.2.2.2.2.2.2.1 x.2.2.2.2.2.2.2.2.2.1 x.2.2.2.2.2.2.2.2.2.2.1 w) n) (.block 4 (.loop (cd (bodyOf f35) [1,1,1,1,0,1,0,0,1,0,0,1,1,0,1,0,0,1,0,0,1,1,1,1,0,1,0,0]))):=
  K_9 (O:=tabL []) (root:=(bodyOf f35)) (π:=[1,1,1,1,0,1,0,0,1,0,0,1,1,0,1,0,0,1,0,0,1,1,1,1,0,1,0,0]) (Li:=[(0,.str),(4,.str),(5,.str),(6,.sl),(7,.int .i64),(8,.int .i64),(9,.int .i64),(10,.str),(11,.int .i64),(12,.int .i64),(13,.int .i64)]) (Lo:=[(12,.int .i64)]) (S:=(fun n x w=>K_31 K n x.1 x.2.1 x.2.2.1 x.2.2.2.1 x.2.2.2.2.1 x.2.2.2.2.2.1 x.2.2.2.2.2.2.1 x.2.2.2.2.2.2.2.1 x.2.2.2.2.2.2.2.2.1 x.2.2.2.2.2.2.2.2.2.1 x.2.2.2.2.2.2.2.2.2.2.1 w)) (K_56 K) (K_50 K) rfl (Orc.nil _ _ _) (by kernel_rfl) (fun _ _=>by kernel_rfl) (fun _ _ _=>by kernel_rfl) n
noncomputable def K_75 (K:Nat):SE:=stmtN [(0,.str),(4,.str),(5,.str),(6,.sl),(7,.int .i64),(8,.int .i64),(9,.int .i64),(10,.str),(11,.int .i64),(12,.int .i64),(13,.int .i64)] [(12,.int .i64)] [(12,14),(45,60)] (fun x w=>K_31 K K x.1 x.2.1 x.2.2.1 x.2.2.2.1 x.2.2.2.2.1 x.2.2.2.2.2.1 x.2.2.2.2.2.2.1 x.2.2.2.2.2.2.2.1 x.2.2.2.2.2.2.2.2.1 x.2.2.2.2.2.2.2.2.2.1 x.2.2.2.2.2.2.2.2.2.2.1 w)
theorem K_80(K:Nat)(R:Rg)(h:subRB [(12,14),(45,60)] R=true):(K_75 K).Ok prog R (.block 4 (.loop (cd (bodyOf f35) [1,1,1,1,0,1,0,0,1,0,0,1,1,0,1,0,0,1,0,0,1,1,1,1,0,1,0,0]))):=K_2 (K_qn K K) (K_1 h)
theorem K_qj(K:Nat)(n:Nat):StmtOk prog [(0,.str),(4,.str),(5,.str),(6,.sl),(7,.int .i64),(8,.int .i64),(9,.int .i64)] [(8,.int .i64)] [(2,.sl),(3,.bool)] [(2,4),(8,14),(36,67)] ((fun n x w=>K_30 K n x.1 x.2.1 x.2.2.1 x.2.2.2.1 x.2.2.2.2.1 x.2.2.2.2.2.1 x.2.2.2.2.2.2.1 w) n) (.block 2 (.loop (cd (bodyOf f35) [1,1,1,1,0,1,0,0,1,0,0,1,1,0,1,0,0]))):=
  K_6p (O:=tabL [([1,1,1,1,0,1,0,0,1,0,0,1,1,0,1,0,0,1,0,0,1,1,0,1],K_77 K),([1,1,1,1,0,1,0,0,1,0,0,1,1,0,1,0,0,1,0,0,1,1,1,1,0,1],K_75 K)]) (root:=(bodyOf f35)) (π:=[1,1,1,1,0,1,0,0,1,0,0,1,1,0,1,0,0]) (Li:=[(0,.str),(4,.str),(5,.str),(6,.sl),(7,.int .i64),(8,.int .i64),(9,.int .i64)]) (Lo:=[(8,.int .i64)]) (Lr:=[(2,.sl),(3,.bool)]) (S:=(fun n x w=>K_30 K n x.1 x.2.1 x.2.2.1 x.2.2.2.1 x.2.2.2.2.1 x.2.2.2.2.2.1 x.2.2.2.2.2.2.1 w)) (K_56 K) (K_50 K) rfl (Orc.cons (by kernel_rfl) (K_81 K [(2,4),(8,14),(36,67)] (by kernel_rfl)) (Orc.cons (by kernel_rfl) (K_80 K [(2,4),(8,14),(36,67)] (by kernel_rfl)) (Orc.nil _ _ _))) (by kernel_rfl) (fun _ _=>by kernel_rfl) (fun _ _ _=>by kernel_rfl) n
noncomputable def K_ag (K:Nat):SE:=stmt [(0,.str),(4,.str),(5,.str),(6,.sl),(7,.int .i64),(8,.int .i64),(9,.int .i64)] [(8,.int .i64)] [(2,.sl),(3,.bool)] [(2,4),(8,14),(36,67)] (fun x w=>K_30 K K x.1 x.2.1 x.2.2.1 x.2.2.2.1 x.2.2.2.2.1 x.2.2.2.2.2.1 x.2.2.2.2.2.2.1 w)
theorem K_co(K:Nat)(R:Rg)(h:subRB [(2,4),(8,14),(36,67)] R=true):(K_ag K).Ok prog R (.block 2 (.loop (cd (bodyOf f35) [1,1,1,1,0,1,0,0,1,0,0,1,1,0,1,0,0]))):=K_53 (K_qj K K) (K_1 h)
theorem K_q4(K:Nat)(n:Nat):StmtOk prog [(0,.str),(4,.str),(5,.str),(6,.sl),(7,.int .i64)] [(6,.sl)] [(2,.sl),(3,.bool)] [(2,4),(6,76)] ((fun n x w=>K_34 K n x.1 x.2.1 x.2.2.1 x.2.2.2.1 x.2.2.2.2.1 w) n) (.block 0 (.loop (cd (bodyOf f35) [1,1,1,1,0,1,0,0]))):=
  K_6p (O:=tabL [([1,1,1,1,0,1,0,0,1,0,0,0,0],K_an K),([1,1,1,1,0,1,0,0,1,0,0,1,1,0,1],K_ag K),([1,1,1,1,0,1,0,0,1,0,0,1,1,0,1,0,0,1,0,0,1,1,0,1],K_77 K),([1,1,1,1,0,1,0,0,1,0,0,1,1,0,1,0,0,1,0,0,1,1,1,1,0,1],K_75 K)]) (root:=(bodyOf f35)) (π:=[1,1,1,1,0,1,0,0]) (Li:=[(0,.str),(4,.str),(5,.str),(6,.sl),(7,.int .i64)]) (Lo:=[(6,.sl)]) (Lr:=[(2,.sl),(3,.bool)]) (S:=(fun n x w=>K_34 K n x.1 x.2.1 x.2.2.1 x.2.2.2.1 x.2.2.2.2.1 w)) (K_56 K) (K_50 K) rfl (Orc.cons (by kernel_rfl) (K_ce K [(2,4),(6,76)] (by kernel_rfl)) (Orc.cons (by kernel_rfl) (K_co K [(2,4),(6,76)] (by kernel_rfl)) (Orc.cons (by kernel_rfl) (K_81 K [(2,4),(6,76)] (by kernel_rfl)) (Orc.cons (by kernel_rfl) (K_80 K [(2,4),(6,76)] (by kernel_rfl)) (Orc.nil _ _ _))))) (by kernel_rfl) (fun _ _=>by kernel_rfl) (fun _ _ _=>by kernel_rfl) n
noncomputable def K_ft (K:Nat):SE:=stmt [(0,.str),(4,.str),(5,.str),(6,.sl),(7,.int .i64)] [(6,.sl)] [(2,.sl),(3,.bool)] [(2,4),(6,76)] (fun x w=>K_34 K K x.1 x.2.1 x.2.2.1 x.2.2.2.1 x.2.2.2.2.1 w)
theorem K_li(K:Nat)(R:Rg)(h:subRB [(2,4),(6,76)] R=true):(K_ft K).Ok prog R (.block 0 (.loop (cd (bodyOf f35) [1,1,1,1,0,1,0,0]))):=K_53 (K_q4 K K) (K_1 h)
theorem K_fp:FunFacts prog 35 f35 (bodyOf f35) [(0,.str)] [(0,81)]:=⟨func35,by kernel_rfl,by kernel_rfl,by kernel_rfl,by kernel_rfl,by kernel_rfl⟩
theorem K_qi(K:Nat)(x:TT [(0,.str)])(w:World)(y:TR [.sl,.bool])(w2:World)(h:K_5u K x.1 w=some (y,w2)):Calls prog 35 (encA [(0,.str)] x).toArray w (fun e w3=>e= .returned (resV (encR [.sl,.bool] y))∧w3=w2):=
  K_f (O:=tabL [([1,1,1,1,0,1],K_ft K),([1,1,1,1,0,1,0,0,1,0,0,0,0],K_an K),([1,1,1,1,0,1,0,0,1,0,0,1,1,0,1],K_ag K),([1,1,1,1,0,1,0,0,1,0,0,1,1,0,1,0,0,1,0,0,1,1,0,1],K_77 K),([1,1,1,1,0,1,0,0,1,0,0,1,1,0,1,0,0,1,0,0,1,1,1,1,0,1],K_75 K)]) (Lp:=[(0,.str)]) (Rt:=[.sl,.bool]) (S:=(fun x w=>K_5u K x.1 w)) (K_56 K) (K_50 K) rfl K_fp (Orc.cons (by kernel_rfl) (K_li K [(0,81)] (by kernel_rfl)) (Orc.cons (by kernel_rfl) (K_ce K [(0,81)] (by kernel_rfl)) (Orc.cons (by kernel_rfl) (K_co K [(0,81)] (by kernel_rfl)) (Orc.cons (by kernel_rfl) (K_81 K [(0,81)] (by kernel_rfl)) (Orc.cons (by kernel_rfl) (K_80 K [(0,81)] (by kernel_rfl)) (Orc.nil _ _ _)))))) (fun _ _=>by kernel_rfl) x w y w2 h
noncomputable def K_dw (K:Nat):CE:=funE [(0,.str)] [.sl,.bool] (fun x w=>K_5u K x.1 w)
theorem K_ke(K:Nat):(K_dw K).Ok prog 35:=K_b K_fp fun x w y w2 h=>K_qi K x w y w2 h
noncomputable def K_xn (K:Nat):List (Nat×CE):=[(35,K_dw K),(59,K_cj K)]
theorem K_kj(K:Nat):Env.Ok prog (tab (K_xn K)):=(Env.cons (K_ke K) (Env.cons (K_it K) (Env.nil _)))
noncomputable def K_xs (K:Nat):List (Nat×RE):=[]
theorem K_jm(K:Nat):REnv.Ok prog (tab (K_xs K)):=(REnv.nil _)
noncomputable def K_8m (K:Nat) (b12:Sl) (ok13:Bool) (w:World):Option ((Bool×Unit)×World):=
 if (!ok13)=true then(some ((true,()),w)) else(some (((((b12.len:Nat):Int) == 0),()),w))
noncomputable def K_a1 (K:Nat) (line0:ByteArray) (i1:Int) (by2:Int) (k3:Int) (too4:Int) (w:World):Option ((ByteArray×Bool×Unit)×World):=
 bnd (K_5u K line0 w) fun r_1 w_2=>
 bnd (K_8m K r_1.1 r_1.2.1 w_2) fun y_3 w_4=>
 if y_3.1=true then(some ((str0,false,()),w_4)) else(if (IntKind.u64.wrap ((r_1.1.len:Nat):Int))≠0 then((r_1.1.a).bind fun p_5=>
 if (0:Int)≤(IntKind.i64.wrap (Int.tmod (IntKind.u64.wrap i1) (IntKind.u64.wrap ((r_1.1.len:Nat):Int))))∧(IntKind.i64.wrap (Int.tmod (IntKind.u64.wrap i1) (IntKind.u64.wrap ((r_1.1.len:Nat):Int))))<((r_1.1.len:Nat):Int) then((ldI .u8 (p_5.add ((Int.toNat (IntKind.i64.wrap (Int.tmod (IntKind.u64.wrap i1) (IntKind.u64.wrap ((r_1.1.len:Nat):Int)))))*1)) w_4).bind fun v_6=>
 (r_1.1.a).bind fun p_7=>
 if (0:Int)≤(IntKind.i64.wrap (Int.tmod (IntKind.u64.wrap i1) (IntKind.u64.wrap ((r_1.1.len:Nat):Int))))∧(IntKind.i64.wrap (Int.tmod (IntKind.u64.wrap i1) (IntKind.u64.wrap ((r_1.1.len:Nat):Int))))<((r_1.1.len:Nat):Int) then((stC (p_7.add ((Int.toNat (IntKind.i64.wrap (Int.tmod (IntKind.u64.wrap i1) (IntKind.u64.wrap ((r_1.1.len:Nat):Int)))))*1)) (.int .u8 (bits .xor .u8 v_6 by2)) w_4).bind fun w_8=>
 if (IntKind.u64.wrap ((r_1.1.len:Nat):Int))≠0 then((r_1.1.a).bind fun p_9=>
 if (0:Int)≤(IntKind.i64.wrap (Int.tmod (IntKind.u64.wrap k3) (IntKind.u64.wrap ((r_1.1.len:Nat):Int))))∧(IntKind.i64.wrap (Int.tmod (IntKind.u64.wrap k3) (IntKind.u64.wrap ((r_1.1.len:Nat):Int))))<((r_1.1.len:Nat):Int) then((ldI .u8 (p_9.add ((Int.toNat (IntKind.i64.wrap (Int.tmod (IntKind.u64.wrap k3) (IntKind.u64.wrap ((r_1.1.len:Nat):Int)))))*1)) w_8).bind fun v_10=>
 (r_1.1.a).bind fun p_11=>
 if (0:Int)≤(IntKind.i64.wrap (Int.tmod (IntKind.u64.wrap k3) (IntKind.u64.wrap ((r_1.1.len:Nat):Int))))∧(IntKind.i64.wrap (Int.tmod (IntKind.u64.wrap k3) (IntKind.u64.wrap ((r_1.1.len:Nat):Int))))<((r_1.1.len:Nat):Int) then((stC (p_11.add ((Int.toNat (IntKind.i64.wrap (Int.tmod (IntKind.u64.wrap k3) (IntKind.u64.wrap ((r_1.1.len:Nat):Int)))))*1)) (.int .u8 (bits .xor .u8 v_10 too4)) w_8).bind fun w_12=>
 bnd (K_6d K r_1.1 w_12) fun r_13 w_14=>
 some ((r_13.1,true,()),w_14)) else none) else none) else none) else none) else none) else none)
theorem K_rl(K:Nat):StmtNOk prog [(12,.sl),(13,.bool)] [(26,.bool)] [(20,27)] (fun x w=>K_8m K x.1 x.2.1 w) (cd (bodyOf f34) [1,1,0,0]):=
  K_17 (O:=tabL []) (root:=(bodyOf f34)) (π:=[1,1,0,0]) (K_kj K) (K_jm K) rfl (Orc.nil _ _ _) (by kernel_rfl) (fun _ _=>by kernel_rfl)
noncomputable def K_go (K:Nat):SE:=stmtN [(12,.sl),(13,.bool)] [(26,.bool)] [(20,27)] (fun x w=>K_8m K x.1 x.2.1 w)
theorem K_ni(K:Nat)(R:Rg)(h:subRB [(20,27)] R=true):(K_go K).Ok prog R (cd (bodyOf f34) [1,1,0,0]):=K_2 (K_rl K) (K_1 h)
theorem K_hu:FunFacts prog 34 f34 (bodyOf f34) [(0,.str),(1,.int .i64),(2,.int .u8),(3,.int .i64),(4,.int .u8)] [(0,61)]:=⟨func34,by kernel_rfl,by kernel_rfl,by kernel_rfl,by kernel_rfl,by kernel_rfl⟩
theorem K_sa(K:Nat)(x:TT [(0,.str),(1,.int .i64),(2,.int .u8),(3,.int .i64),(4,.int .u8)])(w:World)(y:TR [.str,.bool])(w2:World)(h:K_a1 K x.1 x.2.1 x.2.2.1 x.2.2.2.1 x.2.2.2.2.1 w=some (y,w2)):Calls prog 34 (encA [(0,.str),(1,.int .i64),(2,.int .u8),(3,.int .i64),(4,.int .u8)] x).toArray w (fun e w3=>e= .returned (resV (encR [.str,.bool] y))∧w3=w2):=
  K_f (O:=tabL [([1,1,0,0],K_go K)]) (Lp:=[(0,.str),(1,.int .i64),(2,.int .u8),(3,.int .i64),(4,.int .u8)]) (Rt:=[.str,.bool]) (S:=(fun x w=>K_a1 K x.1 x.2.1 x.2.2.1 x.2.2.2.1 x.2.2.2.2.1 w)) (K_kj K) (K_jm K) rfl K_hu (Orc.cons (by kernel_rfl) (K_ni K [(0,61)] (by kernel_rfl)) (Orc.nil _ _ _)) (fun _ _=>by kernel_rfl) x w y w2 h
noncomputable def K_mw (K:Nat):CE:=funE [(0,.str),(1,.int .i64),(2,.int .u8),(3,.int .i64),(4,.int .u8)] [.str,.bool] (fun x w=>K_a1 K x.1 x.2.1 x.2.2.1 x.2.2.2.1 x.2.2.2.2.1 w)
theorem K_w6(K:Nat):(K_mw K).Ok prog 34:=K_b K_hu fun x w y w2 h=>K_sa K x w y w2 h
end Go.Sh

namespace Go.Sh
open Go.Fw Go.Proofs.Tryd
noncomputable def K_wf (K:Nat):List (Nat×CE):=[(74,K_88 K),(55,K_7z K)]
theorem K_sw(K:Nat):Env.Ok prog (tab (K_wf K)):=(Env.cons (K_bl K) (Env.cons (K_cq K) (Env.nil _)))
noncomputable def K_wh (K:Nat):List (Nat×RE):=[]
theorem K_t7(K:Nat):REnv.Ok prog (tab (K_wh K)):=(REnv.nil _)
noncomputable def K_1p (K:Nat) (text0:ByteArray) (w:World):Option ((ByteArray×Int×Int×Unit)×World):=
 bnd (K_3y K text0 w) fun r_1 w_2=>
 bnd (newB z102 102 w_2) fun s_3 w_4=>
 if (r_1.1).size=5 then((stA s_3 r_1.1 w_4).bind fun w_5=>
 if (r_1.2.2.1 != 0)=true then(some ((str0,0,r_1.2.2.1,()),w_5)) else((ldA 5 s_3 w_5).bind fun v_6=>
 bnd (K_1e K v_6 w_5) fun r_7 w_8=>
 some ((r_7.1,r_1.2.1,0,()),w_8))) else none
theorem K_fd:FunFacts prog 43 f43 (bodyOf f43) [(0,.str)] [(0,20)]:=⟨func43,by kernel_rfl,by kernel_rfl,by kernel_rfl,by kernel_rfl,by kernel_rfl⟩
theorem K_qs(K:Nat)(x:TT [(0,.str)])(w:World)(y:TR [.str,.int .i64,.int .i64])(w2:World)(h:K_1p K x.1 w=some (y,w2)):Calls prog 43 (encA [(0,.str)] x).toArray w (fun e w3=>e= .returned (resV (encR [.str,.int .i64,.int .i64] y))∧w3=w2):=
  K_f (O:=tabL []) (Lp:=[(0,.str)]) (Rt:=[.str,.int .i64,.int .i64]) (S:=(fun x w=>K_1p K x.1 w)) (K_sw K) (K_t7 K) rfl K_fd (Orc.nil _ _ _) (fun _ _=>by kernel_rfl) x w y w2 h
noncomputable def K_ky (K:Nat):CE:=funE [(0,.str)] [.str,.int .i64,.int .i64] (fun x w=>K_1p K x.1 w)
theorem K_uw(K:Nat):(K_ky K).Ok prog 43:=K_b K_fd fun x w y w2 h=>K_qs K x w y w2 h
noncomputable def K_wd (K:Nat):List (Nat×CE):=[(74,K_88 K)]
theorem K_tc(K:Nat):Env.Ok prog (tab (K_wd K)):=(Env.cons (K_bl K) (Env.nil _))
noncomputable def K_wm (K:Nat):List (Nat×RE):=[]
theorem K_tw(K:Nat):REnv.Ok prog (tab (K_wm K)):=(REnv.nil _)
noncomputable def K_4h (K:Nat) (text0:ByteArray) (w:World):Option (((Array Value)×Int×Unit)×World):=
 bnd (newB z84 84 w) fun p_1 w_2=>
 bnd (K_3y K text0 w_2) fun r_3 w_4=>
 bnd (newB z102 102 w_4) fun s_5 w_6=>
 if (r_3.1).size=5 then((stA s_5 r_3.1 w_6).bind fun w_7=>
 (ldA 4 (s_5.add 0) w_7).bind fun v_8=>
 if (v_8).size=4 then((stA p_1 v_8 w_7).bind fun w_9=>
 (ldA 4 p_1 w_9).bind fun res_10=>
 some ((res_10,r_3.2.2.1,()),w_9)) else none) else none
theorem K_fn:FunFacts prog 44 f44 (bodyOf f44) [(0,.str)] [(0,16)]:=⟨func44,by kernel_rfl,by kernel_rfl,by kernel_rfl,by kernel_rfl,by kernel_rfl⟩
theorem K_qr(K:Nat)(x:TT [(0,.str)])(w:World)(y:TR [.agg,.int .i64])(w2:World)(h:K_4h K x.1 w=some (y,w2)):Calls prog 44 (encA [(0,.str)] x).toArray w (fun e w3=>e= .returned (resV (encR [.agg,.int .i64] y))∧w3=w2):=
  K_f (O:=tabL []) (Lp:=[(0,.str)]) (Rt:=[.agg,.int .i64]) (S:=(fun x w=>K_4h K x.1 w)) (K_tc K) (K_tw K) rfl K_fn (Orc.nil _ _ _) (fun _ _=>by kernel_rfl) x w y w2 h
noncomputable def K_k9 (K:Nat):CE:=funE [(0,.str)] [.agg,.int .i64] (fun x w=>K_4h K x.1 w)
theorem K_ue(K:Nat):(K_k9 K).Ok prog 44:=K_b K_fn fun x w y w2 h=>K_qr K x w y w2 h
end Go.Sh

namespace Go.Sh
open Go.Fw Go.Proofs.Tryd
noncomputable def K_lz (K:Nat):List (Nat×CE):=[(32,K_dl K),(33,K_n3 K),(34,K_mw K),(43,K_ky K),(44,K_k9 K),(35,K_dw K)]
theorem K_2s(K:Nat):Env.Ok prog (tab (K_lz K)):=(Env.cons (K_n8 K) (Env.cons (K_we K) (Env.cons (K_w6 K) (Env.cons (K_uw K) (Env.cons (K_ue K) (Env.cons (K_ke K) (Env.nil _)))))))
noncomputable def K_m5 (K:Nat):List (Nat×RE):=[(19,K_ch)]
theorem K_2r(K:Nat):REnv.Ok prog (tab (K_m5 K)):=(REnv.cons (K_gv) (REnv.nil _))
noncomputable def K_3e (K:Nat) (ok9:Bool) (w:World):Option ((Bool×Unit)×World):=
 bnd (K_9w K w) fun r_11 w_12=>
 if (!r_11.1)=true then(some ((true,()),w_12)) else(some (((!ok9),()),w_12))
noncomputable def K_3g (K:Nat) (line10:ByteArray) (well12:Bool) (m13:ByteArray) (e15:Int) (x16:Addr) (f17:Int) (y18:Addr) (g19:Int) (same20:ByteArray) (none21:Int) (h22:Int) (w:World):Option ((Bool×Unit)×World):=
 if (!well12)=true then(some ((true,()),w)) else((K_19 e15).bind fun r_38=>
 if (r_38.1 != 0)=true then(some ((true,()),w)) else(if (!(m13.toList == line10.toList))=true then(some ((true,()),w)) else((K_19 f17).bind fun r_39=>
 if (r_39.1 != 0)=true then(some ((true,()),w)) else((K_19 g19).bind fun r_40=>
 if (r_40.1 != 0)=true then(some ((true,()),w)) else((ldA 4 x16 w).bind fun v_41=>
 (ldA 4 y18 w).bind fun v_42=>
 bnd (bop prog .neq 84 (.tmp 112) (.tmp 113) (.agg v_41) (.agg v_42) w) fun v_43 w_44=>
 (asB v_43).bind fun v_45=>
 if v_45=true then(some ((true,()),w_44)) else(if (!(same20.toList == line10.toList))=true then(some ((true,()),w_44)) else(if (none21 != 0)=true then(some ((true,()),w_44)) else((K_19 h22).bind fun r_46=>
 some (((r_46.1 != 0),()),w_44)))))))))
noncomputable def K_z (K:Nat) (rec:ByteArray→Addr→ByteArray→Int→Sl→Sl→Int→Int→World→Option ((Int×Unit)×World)) (word2:ByteArray) (p4:Addr) (line10:ByteArray) (n14:Int) (a23:Sl) (b25:Sl) (differ27:Int) (i28:Int) (w:World):Option ((Int×Unit)×World):=
 if (decide (i28<((a23.len:Nat):Int)))=true then((a23.a).bind fun p_53=>
 if (0:Int)≤i28∧i28<((a23.len:Nat):Int) then((b25.a).bind fun p_54=>
 if (0:Int)≤i28∧i28<((b25.len:Nat):Int) then((ldI .u8 (p_53.add ((Int.toNat i28)*1)) w.drew).bind fun v_55=>
 (ldI .u8 (p_54.add ((Int.toNat i28)*1)) w.drew).bind fun v_56=>
 if (v_55 != v_56)=true then(rec word2 p4 line10 n14 a23 b25 (IntKind.i64.wrap (differ27+1)) (IntKind.i64.wrap (i28+1)) w.drew) else(rec word2 p4 line10 n14 a23 b25 differ27 (IntKind.i64.wrap (i28+1)) w.drew)) else none) else none) else(some ((differ27,()),w))
noncomputable def K_o (K:Nat) (n:Nat):ByteArray→Addr→ByteArray→Int→Sl→Sl→Int→Int→World→Option ((Int×Unit)×World):=iter (fun _ _ _ _ _ _ _ _ _=>none) (K_z K) n
noncomputable def K_28 (K:Nat) (rec:ByteArray→Addr→ByteArray→Int→World→Option ((Out (Unit) (Bool×Unit))×World)) (word2:ByteArray) (p4:Addr) (line10:ByteArray) (i29:Int) (w:World):Option ((Out (Unit) (Bool×Unit))×World):=
 if (decide (i29<((word2.size:Nat):Int)))=true then(if (0:Int)≤i29 then((word2[(Int.toNat i29)]?).bind fun b_59=>
 if (((b_59.toNat:Nat):Int) == 32)=true then(some (.ret (true,()),w)) else(if (0:Int)≤i29 then((word2[(Int.toNat i29)]?).bind fun b_60=>
 if (((b_60.toNat:Nat):Int) == 9)=true then(some (.ret (true,()),w)) else(if (0:Int)≤i29 then((word2[(Int.toNat i29)]?).bind fun b_61=>
 if (((b_61.toNat:Nat):Int) == 10)=true then(some (.ret (true,()),w)) else(if (0:Int)≤i29 then((word2[(Int.toNat i29)]?).bind fun b_62=>
 if (((b_62.toNat:Nat):Int) == 13)=true then(some (.ret (true,()),w)) else(if (0:Int)≤i29 then((word2[(Int.toNat i29)]?).bind fun b_63=>
 if (((b_63.toNat:Nat):Int) == 45)=true then(some (.ret (true,()),w)) else(rec word2 p4 line10 (IntKind.i64.wrap (i29+1)) w)) else none)) else none)) else none)) else none)) else none) else(some (.norm (),w))
noncomputable def K_x (K:Nat) (n:Nat):ByteArray→Addr→ByteArray→Int→World→Option ((Out (Unit) (Bool×Unit))×World):=iter (fun _ _ _ _ _=>none) (K_28 K) n
noncomputable def K_4u (K:Nat) (d0:Array Value) (p1:Array Value) (word2:ByteArray) (w:World):Option ((Bool×Unit)×World):=
 bnd (newB d0 25 w) fun p_1 w_2=>
 bnd (newB p1 59 w_2) fun p_3 w_4=>
 (ldA 6 p_1 w_4).bind fun v_5=>
 bnd (K_4g K v_5 w_4) fun r_6 w_7=>
 bnd (newB z25 25 w_7) fun x_8 w_9=>
 if (r_6.1).size=6 then((stA x_8 r_6.1 w_9).bind fun w_10=>
 bnd (K_3e K r_6.2.2.1 w_10) fun y_13 w_14=>
 if y_13.1=true then(some ((false,()),w_14)) else((ldI .i64 (p_3.add 0) w_14).bind fun v_15=>
 if (IntKind.u64.wrap ((r_6.2.1.len:Nat):Int))≠0 then((r_6.2.1.a).bind fun p_16=>
 if (0:Int)≤(IntKind.i64.wrap (Int.tmod (IntKind.u64.wrap v_15) (IntKind.u64.wrap ((r_6.2.1.len:Nat):Int))))∧(IntKind.i64.wrap (Int.tmod (IntKind.u64.wrap v_15) (IntKind.u64.wrap ((r_6.2.1.len:Nat):Int))))<((r_6.2.1.len:Nat):Int) then((ldStr (p_16.add ((Int.toNat (IntKind.i64.wrap (Int.tmod (IntKind.u64.wrap v_15) (IntKind.u64.wrap ((r_6.2.1.len:Nat):Int)))))*1)) w_14).bind fun v_17=>
 (ldI .i64 (p_3.add 1) w_14).bind fun v_18=>
 (ldI .u8 (p_3.add 3) w_14).bind fun v_19=>
 (ldI .i64 (p_3.add 2) w_14).bind fun v_20=>
 (ldI .u8 (p_3.add 4) w_14).bind fun v_21=>
 bnd (K_a1 K v_17 v_18 v_19 v_20 v_21 w_14) fun r_22 w_23=>
 bnd (K_1p K r_22.1 w_23) fun r_24 w_25=>
 bnd (K_4h K r_22.1 w_25) fun r_26 w_27=>
 bnd (newB z84 84 w_27) fun p_28 w_29=>
 if (r_26.1).size=4 then((stA p_28 r_26.1 w_29).bind fun w_30=>
 bnd (K_4h K v_17 w_30) fun r_31 w_32=>
 bnd (newB z84 84 w_32) fun y_33 w_34=>
 if (r_31.1).size=4 then((stA y_33 r_31.1 w_34).bind fun w_35=>
 bnd (K_1p K v_17 w_35) fun r_36 w_37=>
 bnd (K_3g K v_17 r_22.2.1 r_24.1 r_24.2.2.1 p_28 r_26.2.1 y_33 r_31.2.1 r_36.1 r_36.2.1 r_36.2.2.1 w_37) fun y_47 w_48=>
 if y_47.1=true then(some ((false,()),w_48)) else(bnd (K_5u K v_17 w_48) fun r_49 w_50=>
 bnd (K_5u K r_22.1 w_50) fun r_51 w_52=>
 bnd (K_o K K word2 p_3 v_17 r_24.2.1 r_49.1 r_51.1 0 0 w_52) fun y_57 w_58=>
 if (r_24.2.1 != y_57.1)=true then(some ((false,()),w_58)) else(bnd (K_x K K word2 p_3 v_17 0 w_58) fun y_64 w_65=>
 (match y_64 with
 | .norm z_66n=>(if (((word2.size:Nat):Int) != 5)=true then(some ((true,()),w_65)) else((ldI .i64 (p_3.add 1) w_65).bind fun v_67=>
 if (IntKind.u64.wrap (IntKind.i64.wrap (Int.tdiv (IntKind.i64.wrap (((v_17.size:Nat):Int)+1)) 6)))≠0 then(if (0:Int)≤(IntKind.i64.wrap (6*(IntKind.i64.wrap (Int.tmod (IntKind.u64.wrap v_67) (IntKind.u64.wrap (IntKind.i64.wrap (Int.tdiv (IntKind.i64.wrap (((v_17.size:Nat):Int)+1)) 6)))))))∧(IntKind.i64.wrap (6*(IntKind.i64.wrap (Int.tmod (IntKind.u64.wrap v_67) (IntKind.u64.wrap (IntKind.i64.wrap (Int.tdiv (IntKind.i64.wrap (((v_17.size:Nat):Int)+1)) 6)))))))≤((v_17.size:Nat):Int) then(if (v_17.extract 0 (Int.toNat ((IntKind.i64.wrap (6*(IntKind.i64.wrap (Int.tmod (IntKind.u64.wrap v_67) (IntKind.u64.wrap (IntKind.i64.wrap (Int.tdiv (IntKind.i64.wrap (((v_17.size:Nat):Int)+1)) 6)))))))))).size+word2.size≤9223372036854775807 then(if (0:Int)≤(IntKind.i64.wrap ((IntKind.i64.wrap (6*(IntKind.i64.wrap (Int.tmod (IntKind.u64.wrap v_67) (IntKind.u64.wrap (IntKind.i64.wrap (Int.tdiv (IntKind.i64.wrap (((v_17.size:Nat):Int)+1)) 6)))))))+5))∧(IntKind.i64.wrap ((IntKind.i64.wrap (6*(IntKind.i64.wrap (Int.tmod (IntKind.u64.wrap v_67) (IntKind.u64.wrap (IntKind.i64.wrap (Int.tdiv (IntKind.i64.wrap (((v_17.size:Nat):Int)+1)) 6)))))))+5))≤((v_17.size:Nat):Int) then(if ((v_17.extract 0 (Int.toNat ((IntKind.i64.wrap (6*(IntKind.i64.wrap (Int.tmod (IntKind.u64.wrap v_67) (IntKind.u64.wrap (IntKind.i64.wrap (Int.tdiv (IntKind.i64.wrap (((v_17.size:Nat):Int)+1)) 6)))))))))) ++ word2).size+(v_17.extract (Int.toNat ((IntKind.i64.wrap ((IntKind.i64.wrap (6*(IntKind.i64.wrap (Int.tmod (IntKind.u64.wrap v_67) (IntKind.u64.wrap (IntKind.i64.wrap (Int.tdiv (IntKind.i64.wrap (((v_17.size:Nat):Int)+1)) 6)))))))+5)))) v_17.size).size≤9223372036854775807 then(bnd (K_1p K (((v_17.extract 0 (Int.toNat ((IntKind.i64.wrap (6*(IntKind.i64.wrap (Int.tmod (IntKind.u64.wrap v_67) (IntKind.u64.wrap (IntKind.i64.wrap (Int.tdiv (IntKind.i64.wrap (((v_17.size:Nat):Int)+1)) 6)))))))))) ++ word2) ++ (v_17.extract (Int.toNat ((IntKind.i64.wrap ((IntKind.i64.wrap (6*(IntKind.i64.wrap (Int.tmod (IntKind.u64.wrap v_67) (IntKind.u64.wrap (IntKind.i64.wrap (Int.tdiv (IntKind.i64.wrap (((v_17.size:Nat):Int)+1)) 6)))))))+5)))) v_17.size)) w_65.drew) fun r_68 w_69=>
 (K_19 r_68.2.2.1).bind fun r_70=>
 if (r_70.1 == 0)=true then(if (r_68.1.toList == v_17.toList)=true then(if (decide (r_68.2.1≥0))=true then(some (((decide (r_68.2.1≤2)),()),w_69)) else(some ((false,()),w_69))) else(some ((false,()),w_69))) else(some ((false,()),w_69))) else none) else none) else none) else none) else none))
 | .ret z_66r=>(some ((z_66r.1,()),w_65)))))) else none) else none) else none) else none)) else none
theorem K_hn(K:Nat):StmtNOk prog [(9,.bool)] [(42,.bool)] [(37,43)] (fun x w=>K_3e K x.1 w) (cd (bodyOf f9) [1,1,0,0]):=
  K_17 (O:=tabL []) (root:=(bodyOf f9)) (π:=[1,1,0,0]) (K_2s K) (K_2r K) rfl (Orc.nil _ _ _) (by kernel_rfl) (fun _ _=>by kernel_rfl)
noncomputable def K_96 (K:Nat):SE:=stmtN [(9,.bool)] [(42,.bool)] [(37,43)] (fun x w=>K_3e K x.1 w)
theorem K_f2(K:Nat)(R:Rg)(h:subRB [(37,43)] R=true):(K_96 K).Ok prog R (cd (bodyOf f9) [1,1,0,0]):=K_2 (K_hn K) (K_1 h)
theorem K_ho(K:Nat):StmtNOk prog [(10,.str),(12,.bool),(13,.str),(15,.int .i64),(16,.addr),(17,.int .i64),(18,.addr),(19,.int .i64),(20,.str),(21,.int .i64),(22,.int .i64)] [(129,.bool)] [(89,130)] (fun x w=>K_3g K x.1 x.2.1 x.2.2.1 x.2.2.2.1 x.2.2.2.2.1 x.2.2.2.2.2.1 x.2.2.2.2.2.2.1 x.2.2.2.2.2.2.2.1 x.2.2.2.2.2.2.2.2.1 x.2.2.2.2.2.2.2.2.2.1 x.2.2.2.2.2.2.2.2.2.2.1 w) (cd (bodyOf f9) [1,1,1,1,1,1,1,1,1,0,0]):=
  K_17 (O:=tabL []) (root:=(bodyOf f9)) (π:=[1,1,1,1,1,1,1,1,1,0,0]) (K_2s K) (K_2r K) rfl (Orc.nil _ _ _) (by kernel_rfl) (fun _ _=>by kernel_rfl)
noncomputable def K_9q (K:Nat):SE:=stmtN [(10,.str),(12,.bool),(13,.str),(15,.int .i64),(16,.addr),(17,.int .i64),(18,.addr),(19,.int .i64),(20,.str),(21,.int .i64),(22,.int .i64)] [(129,.bool)] [(89,130)] (fun x w=>K_3g K x.1 x.2.1 x.2.2.1 x.2.2.2.1 x.2.2.2.2.1 x.2.2.2.2.2.1 x.2.2.2.2.2.2.1 x.2.2.2.2.2.2.2.1 x.2.2.2.2.2.2.2.2.1 x.2.2.2.2.2.2.2.2.2.1 x.2.2.2.2.2.2.2.2.2.2.1 w)
theorem K_f1(K:Nat)(R:Rg)(h:subRB [(89,130)] R=true):(K_9q K).Ok prog R (cd (bodyOf f9) [1,1,1,1,1,1,1,1,1,0,0]):=K_2 (K_ho K) (K_1 h)
theorem K_h3(K:Nat)(n:Nat):StmtNOk prog [(2,.str),(4,.addr),(10,.str),(14,.int .i64),(23,.sl),(25,.sl),(27,.int .i64),(28,.int .i64)] [(27,.int .i64)] [(27,29),(140,157)] ((fun n x w=>K_o K n x.1 x.2.1 x.2.2.1 x.2.2.2.1 x.2.2.2.2.1 x.2.2.2.2.2.1 x.2.2.2.2.2.2.1 x.2.2.2.2.2.2.2.1 w) n) (.block 0 (.loop (cd (bodyOf f9) [1,1,1,1,1,1,1,1,1,1,1,1,1,0,1,0,0]))):=
  K_9 (O:=tabL []) (root:=(bodyOf f9)) (π:=[1,1,1,1,1,1,1,1,1,1,1,1,1,0,1,0,0]) (Li:=[(2,.str),(4,.addr),(10,.str),(14,.int .i64),(23,.sl),(25,.sl),(27,.int .i64),(28,.int .i64)]) (Lo:=[(27,.int .i64)]) (S:=(fun n x w=>K_o K n x.1 x.2.1 x.2.2.1 x.2.2.2.1 x.2.2.2.2.1 x.2.2.2.2.2.1 x.2.2.2.2.2.2.1 x.2.2.2.2.2.2.2.1 w)) (K_2s K) (K_2r K) rfl (Orc.nil _ _ _) (by kernel_rfl) (fun _ _=>by kernel_rfl) (fun _ _ _=>by kernel_rfl) n
noncomputable def K_9n (K:Nat):SE:=stmtN [(2,.str),(4,.addr),(10,.str),(14,.int .i64),(23,.sl),(25,.sl),(27,.int .i64),(28,.int .i64)] [(27,.int .i64)] [(27,29),(140,157)] (fun x w=>K_o K K x.1 x.2.1 x.2.2.1 x.2.2.2.1 x.2.2.2.2.1 x.2.2.2.2.2.1 x.2.2.2.2.2.2.1 x.2.2.2.2.2.2.2.1 w)
theorem K_eg(K:Nat)(R:Rg)(h:subRB [(27,29),(140,157)] R=true):(K_9n K).Ok prog R (.block 0 (.loop (cd (bodyOf f9) [1,1,1,1,1,1,1,1,1,1,1,1,1,0,1,0,0]))):=K_2 (K_h3 K K) (K_1 h)
theorem K_hk(K:Nat)(n:Nat):StmtOk prog [(2,.str),(4,.addr),(10,.str),(29,.int .i64)] [] [(6,.bool)] [(6,7),(29,30),(160,194)] ((fun n x w=>K_x K n x.1 x.2.1 x.2.2.1 x.2.2.2.1 w) n) (.block 2 (.loop (cd (bodyOf f9) [1,1,1,1,1,1,1,1,1,1,1,1,1,1,1,0,1,0,0]))):=
  K_6p (O:=tabL []) (root:=(bodyOf f9)) (π:=[1,1,1,1,1,1,1,1,1,1,1,1,1,1,1,0,1,0,0]) (Li:=[(2,.str),(4,.addr),(10,.str),(29,.int .i64)]) (Lo:=[]) (Lr:=[(6,.bool)]) (S:=(fun n x w=>K_x K n x.1 x.2.1 x.2.2.1 x.2.2.2.1 w)) (K_2s K) (K_2r K) rfl (Orc.nil _ _ _) (by kernel_rfl) (fun _ _=>by kernel_rfl) (fun _ _ _=>by kernel_rfl) n
noncomputable def K_9f (K:Nat):SE:=stmt [(2,.str),(4,.addr),(10,.str),(29,.int .i64)] [] [(6,.bool)] [(6,7),(29,30),(160,194)] (fun x w=>K_x K K x.1 x.2.1 x.2.2.1 x.2.2.2.1 w)
theorem K_eh(K:Nat)(R:Rg)(h:subRB [(6,7),(29,30),(160,194)] R=true):(K_9f K).Ok prog R (.block 2 (.loop (cd (bodyOf f9) [1,1,1,1,1,1,1,1,1,1,1,1,1,1,1,0,1,0,0]))):=K_53 (K_hk K K) (K_1 h)
theorem K_hr:FunFacts prog 9 f9 (bodyOf f9) [(0,.agg),(1,.agg),(2,.str)] [(0,239)]:=⟨func9,by kernel_rfl,by kernel_rfl,by kernel_rfl,by kernel_rfl,by kernel_rfl⟩
theorem K_hf(K:Nat)(x:TT [(0,.agg),(1,.agg),(2,.str)])(w:World)(y:TR [.bool])(w2:World)(h:K_4u K x.1 x.2.1 x.2.2.1 w=some (y,w2)):Calls prog 9 (encA [(0,.agg),(1,.agg),(2,.str)] x).toArray w (fun e w3=>e= .returned (resV (encR [.bool] y))∧w3=w2):=
  K_f (O:=tabL [([1,1,0,0],K_96 K),([1,1,1,1,1,1,1,1,1,0,0],K_9q K),([1,1,1,1,1,1,1,1,1,1,1,1,1,0,1],K_9n K),([1,1,1,1,1,1,1,1,1,1,1,1,1,1,1,0,1],K_9f K)]) (Lp:=[(0,.agg),(1,.agg),(2,.str)]) (Rt:=[.bool]) (S:=(fun x w=>K_4u K x.1 x.2.1 x.2.2.1 w)) (K_2s K) (K_2r K) rfl K_hr (Orc.cons (by kernel_rfl) (K_f2 K [(0,239)] (by kernel_rfl)) (Orc.cons (by kernel_rfl) (K_f1 K [(0,239)] (by kernel_rfl)) (Orc.cons (by kernel_rfl) (K_eg K [(0,239)] (by kernel_rfl)) (Orc.cons (by kernel_rfl) (K_eh K [(0,239)] (by kernel_rfl)) (Orc.nil _ _ _))))) (fun _ _=>by kernel_rfl) x w y w2 h
end Go.Sh
