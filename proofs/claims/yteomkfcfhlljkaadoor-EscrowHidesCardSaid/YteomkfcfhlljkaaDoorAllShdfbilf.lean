/- Texts of this claim, put together: Sh12, Sh13, Sh14 -/
import Derived.Test.YteomkfcfhlljkaaDoorAllShgglhpd
set_option maxRecDepth 100000
set_option linter.unusedVariables false
namespace Go.Sh
open Go.Fw Go.Proofs.Tryd
noncomputable def K_yw (K:Nat):List (Nat×CE):=[(16,K_au K),(28,K_mm K),(30,K_h0 K)]
theorem K_mn(K:Nat):Env.Ok prog (tab (K_yw K)):=(Env.cons (K_eu K) (Env.cons (K_wm K) (Env.cons (K_sb K) (Env.nil _))))
noncomputable def K_101 (K:Nat):List (Nat×RE):=[(19,K_du)]
theorem K_lp(K:Nat):REnv.Ok prog (tab (K_101 K)):=(REnv.cons (K_j8) (REnv.nil _))
noncomputable def K_9n (K:Nat) (l1:Sl) (e2:Int) (w:World):Option ((Bool×Unit)×World):=
 (K_2x e2).bind fun r_7=>
 if (r_7.1 != 0)=true then(some ((true,()),w)) else(some (((((l1.len:Nat):Int) != 3),()),w))
noncomputable def K_b2 (K:Nat) (w:World):Option ((Bool×Unit)×World):=
 bnd (bldS prog 23 3 #[(0,(.int .u8 1)),(1,(.int .u8 2)),(2,(.int .u8 3))] w) fun s_1 w_2=>
 bnd (bldS prog 23 7 #[(0,(.int .u8 9)),(1,(.int .u8 8)),(2,(.int .u8 7)),(3,(.int .u8 6)),(4,(.int .u8 5)),(5,(.int .u8 4)),(6,(.int .u8 3))] w_2) fun s_3 w_4=>
 bnd (K_34 K 7 s_1 2 3 s_3 w_4) fun r_5 w_6=>
 bnd (K_9n K r_5.1 r_5.2.1 w_6) fun y_8 w_9=>
 if y_8.1=true then(some ((false,()),w_9)) else((r_5.1.a).bind fun p_10=>
 if (0:Int)≤2∧2<((r_5.1.len:Nat):Int) then((r_5.1.a).bind fun p_11=>
 if (0:Int)≤0∧0<((r_5.1.len:Nat):Int) then((ldStr (p_10.add (2*1)) w_9.drew).bind fun v_12=>
 (ldStr (p_11.add (0*1)) w_9.drew).bind fun v_13=>
 bnd (bldS prog 29 2 #[(0,(.string v_12)),(1,(.string v_13))] w_9.drew) fun s_14 w_15=>
 bnd (K_58 K s_14 w_15) fun r_16 w_17=>
 (r_5.1.a).bind fun p_18=>
 if (0:Int)≤1∧1<((r_5.1.len:Nat):Int) then((ldStr (p_18.add (1*1)) w_17).bind fun v_19=>
 bnd (bldS prog 29 1 #[(0,(.string v_19))] w_17) fun s_20 w_21=>
 bnd (K_58 K s_20 w_21) fun r_22 w_23=>
 (K_2x r_16.2.1).bind fun r_24=>
 if (r_24.1 == 0)=true then(bnd (bldS prog 23 3 #[(0,(.int .u8 1)),(1,(.int .u8 2)),(2,(.int .u8 3))] w_23) fun s_25 w_26=>
 bnd (K_57 K r_16.1 s_25 w_26) fun r_27 w_28=>
 if r_27.1=true then((K_2x r_22.2.1).bind fun r_29=>
 some (((r_29.1 == 114),()),w_28)) else(some ((false,()),w_28))) else(some ((false,()),w_23))) else none) else none) else none)
theorem K_u6(K:Nat):StmtNOk prog [(1,.sl),(2,.int .i64)] [(20,.bool)] [(13,21)] (fun x w=>K_9n K x.1 x.2.1 w) (cd (bodyOf f33) [1,1,0,0]):=
  K_s (O:=tabL []) (root:=(bodyOf f33)) (π:=[1,1,0,0]) (K_mn K) (K_lp K) rfl (Orc.nil _ _ _) (by kernel_rfl) (fun _ _=>by kernel_rfl)
noncomputable def K_il (K:Nat):SE:=stmtN [(1,.sl),(2,.int .i64)] [(20,.bool)] [(13,21)] (fun x w=>K_9n K x.1 x.2.1 w)
theorem K_q1(K:Nat)(R:Rg)(h:subRB [(13,21)] R=true):(K_il K).Ok prog R (cd (bodyOf f33) [1,1,0,0]):=K_2 (K_u6 K) (K_1 h)
theorem K_id:FunFacts prog 33 f33 (bodyOf f33) [] [(0,53)]:=⟨func33,by kernel_rfl,by kernel_rfl,by kernel_rfl,by kernel_rfl,by kernel_rfl⟩
theorem K_u9(K:Nat)(x:TT [])(w:World)(y:TR [.bool])(w2:World)(h:K_b2 K w=some (y,w2)):Calls prog 33 (encA [] x).toArray w (fun e w3=>e= .returned (resV (encR [.bool] y))∧w3=w2):=
  K_h (O:=tabL [([1,1,0,0],K_il K)]) (Lp:=[]) (Rt:=[.bool]) (S:=(fun x w=>K_b2 K w)) (K_mn K) (K_lp K) rfl K_id (Orc.cons (by kernel_rfl) (K_q1 K [(0,53)] (by kernel_rfl)) (Orc.nil _ _ _)) (fun _ _=>by kernel_rfl) x w y w2 h
noncomputable def K_os (K:Nat):CE:=funE [] [.bool] (fun x w=>K_b2 K w)
theorem K_ya(K:Nat):(K_os K).Ok prog 33:=K_e K_id fun x w y w2 h=>K_u9 K x w y w2 h
noncomputable def K_xr (K:Nat):List (Nat×CE):=[]
theorem K_5t(K:Nat):Env.Ok prog (tab (K_xr K)):=(Env.nil _)
noncomputable def K_y6 (K:Nat):List (Nat×RE):=[]
theorem K_5y(K:Nat):REnv.Ok prog (tab (K_y6 K)):=(REnv.nil _)
noncomputable def K_8b (K:Nat) (line0:ByteArray) (i7:Int) (w:World):Option ((Bool×Unit)×World):=
 if (decide ((IntKind.i64.wrap (i7+5)) > ((line0.size:Nat):Int)))=true then(some ((true,()),w)) else(if (decide (i7 > 0))=true then(if (0:Int)≤(IntKind.i64.wrap (i7 - 1)) then((line0[(Int.toNat (IntKind.i64.wrap (i7 - 1)))]?).bind fun b_1=>
 some (((((b_1.toNat:Nat):Int) != 32),()),w)) else none) else(some ((false,()),w)))
noncomputable def K_8s (K:Nat) (vow5:ByteArray) (set10:ByteArray) (bits11:Int) (a43:Bool) (w:World):Option ((ByteArray×Int×Unit)×World):=
 if a43=true then(some ((vow5,4,()),w)) else(some ((set10,bits11,()),w))
noncomputable def K_79 (K:Nat) (rec:ByteArray→ByteArray→ByteArray→Sl→Int→Int→Int→ByteArray→Int→Int→Int→World→Option ((Int×Unit)×World)) (line0:ByteArray) (con4:ByteArray) (vow5:ByteArray) (out6:Sl) (i7:Int) (v8:Int) (k9:Int) (set10:ByteArray) (bits11:Int) (at12:Int) (j13:Int) (w:World):Option ((Int×Unit)×World):=
 if (decide (j13<bits11))=true then(if (0:Int)≤j13 then((set10[(Int.toNat j13)]?).bind fun b_6=>
 if (0:Int)≤(IntKind.i64.wrap (i7+k9)) then((line0[(Int.toNat (IntKind.i64.wrap (i7+k9)))]?).bind fun b_7=>
 if (((b_6.toNat:Nat):Int) == ((b_7.toNat:Nat):Int))=true then(rec line0 con4 vow5 out6 i7 v8 k9 set10 bits11 j13 (IntKind.i64.wrap (j13+1)) w.drew) else(rec line0 con4 vow5 out6 i7 v8 k9 set10 bits11 at12 (IntKind.i64.wrap (j13+1)) w.drew)) else none) else none) else(some ((at12,()),w))
noncomputable def K_43 (K:Nat) (n:Nat):ByteArray→ByteArray→ByteArray→Sl→Int→Int→Int→ByteArray→Int→Int→Int→World→Option ((Int×Unit)×World):=iter (fun _ _ _ _ _ _ _ _ _ _ _ _=>none) (K_79 K) n
noncomputable def K_6z (K:Nat) (rec:ByteArray→ByteArray→ByteArray→Sl→Int→Int→Int→World→Option ((Out (Int×Unit) (Sl×Bool×Unit))×World)) (line0:ByteArray) (con4:ByteArray) (vow5:ByteArray) (out6:Sl) (i7:Int) (v8:Int) (k9:Int) (w:World):Option ((Out (Int×Unit) (Sl×Bool×Unit))×World):=
 if (decide (k9<5))=true then(bnd (K_8s K vow5 con4 16 ((Int.tmod k9 2) == 1) w) fun y_4 w_5=>
 bnd (K_43 K K line0 con4 vow5 out6 i7 v8 k9 y_4.1 y_4.2.1 (-1) 0 w_5) fun y_8 w_9=>
 if (decide (y_8.1<0))=true then(some (.ret (⟨none,0,0⟩,false,()),w_9)) else(rec line0 con4 vow5 out6 i7 (IntKind.i64.wrap ((IntKind.i64.wrap (v8*y_4.2.1))+y_8.1)) (IntKind.i64.wrap (k9+1)) w_9)) else(some (.norm (v8,()),w))
noncomputable def K_3p (K:Nat) (n:Nat):ByteArray→ByteArray→ByteArray→Sl→Int→Int→Int→World→Option ((Out (Int×Unit) (Sl×Bool×Unit))×World):=iter (fun _ _ _ _ _ _ _ _=>none) (K_6z K) n
noncomputable def K_6x (K:Nat) (rec:ByteArray→ByteArray→ByteArray→Sl→Int→World→Option ((Out (Sl×Unit) (Sl×Bool×Unit))×World)) (line0:ByteArray) (con4:ByteArray) (vow5:ByteArray) (out6:Sl) (i7:Int) (w:World):Option ((Out (Sl×Unit) (Sl×Bool×Unit))×World):=
 if (decide (i7<((line0.size:Nat):Int)))=true then(bnd (K_8b K line0 i7 w) fun y_2 w_3=>
 if y_2.1=true then(some (.ret (⟨none,0,0⟩,false,()),w_3)) else(bnd (K_3p K K line0 con4 vow5 out6 i7 0 0 w_3) fun y_10 w_11=>
 (match y_10 with
 | .norm z_12n=>(bnd (bldS prog 23 2 #[(0,(.int .u8 (IntKind.u8.wrap (IntKind.i64.wrap (Int.tdiv z_12n.1 256))))),(1,(.int .u8 (IntKind.u8.wrap (Int.tmod z_12n.1 256))))] w_11) fun s_13 w_14=>
 bnd (apd prog 23 23 (.slice out6.a out6.len out6.cap) (.slice s_13.a s_13.len s_13.cap) w_14) fun s_15 w_16=>
 rec line0 con4 vow5 s_15 (IntKind.i64.wrap (i7+6)) w_16)
 | .ret z_12r=>(some (.ret (z_12r.1,z_12r.2.1,()),w_11))))) else(some (.norm (out6,()),w))
noncomputable def K_3x (K:Nat) (n:Nat):ByteArray→ByteArray→ByteArray→Sl→Int→World→Option ((Out (Sl×Unit) (Sl×Bool×Unit))×World):=iter (fun _ _ _ _ _ _=>none) (K_6x K) n
noncomputable def K_6k (K:Nat) (line0:ByteArray) (w:World):Option ((Sl×Bool×Unit)×World):=
 bnd (K_3x K K line0 str1 str2 ⟨none,0,0⟩ 0 w) fun y_17 w_18=>
 (match y_17 with
 | .norm z_19n=>(some ((z_19n.1,((Int.tmod ((line0.size:Nat):Int) 6) == 5),()),w_18))
 | .ret z_19r=>(some ((z_19r.1,z_19r.2.1,()),w_18)))
theorem K_rz(K:Nat):StmtNOk prog [(0,.str),(7,.int .i64)] [(35,.bool)] [(20,36)] (fun x w=>K_8b K x.1 x.2.1 w) (cd (bodyOf f35) [1,1,1,1,0,1,0,0,1,0,0,0,0]):=
  K_s (O:=tabL []) (root:=(bodyOf f35)) (π:=[1,1,1,1,0,1,0,0,1,0,0,0,0]) (K_5t K) (K_5y K) rfl (Orc.nil _ _ _) (by kernel_rfl) (fun _ _=>by kernel_rfl)
noncomputable def K_bw (K:Nat):SE:=stmtN [(0,.str),(7,.int .i64)] [(35,.bool)] [(20,36)] (fun x w=>K_8b K x.1 x.2.1 w)
theorem K_di(K:Nat)(R:Rg)(h:subRB [(20,36)] R=true):(K_bw K).Ok prog R (cd (bodyOf f35) [1,1,1,1,0,1,0,0,1,0,0,0,0]):=K_2 (K_rz K) (K_1 h)
theorem K_s1(K:Nat):StmtNOk prog [(5,.str),(10,.str),(11,.int .i64),(43,.bool)] [(10,.str),(11,.int .i64)] [(10,12),(44,45)] (fun x w=>K_8s K x.1 x.2.1 x.2.2.1 x.2.2.2.1 w) (cd (bodyOf f35) [1,1,1,1,0,1,0,0,1,0,0,1,1,0,1,0,0,1,0,0,1,1,0,1]):=
  K_s (O:=tabL []) (root:=(bodyOf f35)) (π:=[1,1,1,1,0,1,0,0,1,0,0,1,1,0,1,0,0,1,0,0,1,1,0,1]) (K_5t K) (K_5y K) rfl (Orc.nil _ _ _) (by kernel_rfl) (fun _ _=>by kernel_rfl)
noncomputable def K_85 (K:Nat):SE:=stmtN [(5,.str),(10,.str),(11,.int .i64),(43,.bool)] [(10,.str),(11,.int .i64)] [(10,12),(44,45)] (fun x w=>K_8s K x.1 x.2.1 x.2.2.1 x.2.2.2.1 w)
theorem K_9h(K:Nat)(R:Rg)(h:subRB [(10,12),(44,45)] R=true):(K_85 K).Ok prog R (cd (bodyOf f35) [1,1,1,1,0,1,0,0,1,0,0,1,1,0,1,0,0,1,0,0,1,1,0,1]):=K_2 (K_s1 K) (K_1 h)
theorem K_rw(K:Nat)(n:Nat):StmtNOk prog [(0,.str),(4,.str),(5,.str),(6,.sl),(7,.int .i64),(8,.int .i64),(9,.int .i64),(10,.str),(11,.int .i64),(12,.int .i64),(13,.int .i64)] [(12,.int .i64)] [(12,14),(45,60)] ((fun n x w=>K_43 K n x.1 x.2.1 x.2.2.1 x.2.2.2.1 x.2.2.2.2.1 x.2.2.2.2.2.1 x.2.2.2.2.2.2.1 x.2.2.2.2.2.2.2.1 x.2.2.2.2.2.2.2.2.1 x.2.2.2.2.2.2.2.2.2.1 x.2.2.2.2.2.2.2.2.2.2.1 w) n) (.block 4 (.loop (cd (bodyOf f35) [1,1,1,1,0,1,0,0,1,0,0,1,1,0,1,0,0,1,0,0,1,1,1,1,0,1,0,0]))):=
  K_7 (O:=tabL []) (root:=(bodyOf f35)) (π:=[1,1,1,1,0,1,0,0,1,0,0,1,1,0,1,0,0,1,0,0,1,1,1,1,0,1,0,0]) (Li:=[(0,.str),(4,.str),(5,.str),(6,.sl),(7,.int .i64),(8,.int .i64),(9,.int .i64),(10,.str),(11,.int .i64),(12,.int .i64),(13,.int .i64)]) (Lo:=[(12,.int .i64)]) (S:=(fun n x w=>K_43 K n x.1 x.2.1 x.2.2.1 x.2.2.2.1 x.2.2.2.2.1 x.2.2.2.2.2.1 x.2.2.2.2.2.2.1 x.2.2.2.2.2.2.2.1 x.2.2.2.2.2.2.2.2.1 x.2.2.2.2.2.2.2.2.2.1 x.2.2.2.2.2.2.2.2.2.2.1 w)) (K_5t K) (K_5y K) rfl (Orc.nil _ _ _) (by kernel_rfl) (fun _ _=>by kernel_rfl) (fun _ _ _=>by kernel_rfl) n
noncomputable def K_84 (K:Nat):SE:=stmtN [(0,.str),(4,.str),(5,.str),(6,.sl),(7,.int .i64),(8,.int .i64),(9,.int .i64),(10,.str),(11,.int .i64),(12,.int .i64),(13,.int .i64)] [(12,.int .i64)] [(12,14),(45,60)] (fun x w=>K_43 K K x.1 x.2.1 x.2.2.1 x.2.2.2.1 x.2.2.2.2.1 x.2.2.2.2.2.1 x.2.2.2.2.2.2.1 x.2.2.2.2.2.2.2.1 x.2.2.2.2.2.2.2.2.1 x.2.2.2.2.2.2.2.2.2.1 x.2.2.2.2.2.2.2.2.2.2.1 w)
theorem K_9a(K:Nat)(R:Rg)(h:subRB [(12,14),(45,60)] R=true):(K_84 K).Ok prog R (.block 4 (.loop (cd (bodyOf f35) [1,1,1,1,0,1,0,0,1,0,0,1,1,0,1,0,0,1,0,0,1,1,1,1,0,1,0,0]))):=K_2 (K_rw K K) (K_1 h)
theorem K_s9(K:Nat)(n:Nat):StmtOk prog [(0,.str),(4,.str),(5,.str),(6,.sl),(7,.int .i64),(8,.int .i64),(9,.int .i64)] [(8,.int .i64)] [(2,.sl),(3,.bool)] [(2,4),(8,14),(36,67)] ((fun n x w=>K_3p K n x.1 x.2.1 x.2.2.1 x.2.2.2.1 x.2.2.2.2.1 x.2.2.2.2.2.1 x.2.2.2.2.2.2.1 w) n) (.block 2 (.loop (cd (bodyOf f35) [1,1,1,1,0,1,0,0,1,0,0,1,1,0,1,0,0]))):=
  K_6o (O:=tabL [([1,1,1,1,0,1,0,0,1,0,0,1,1,0,1,0,0,1,0,0,1,1,0,1],K_85 K),([1,1,1,1,0,1,0,0,1,0,0,1,1,0,1,0,0,1,0,0,1,1,1,1,0,1],K_84 K)]) (root:=(bodyOf f35)) (π:=[1,1,1,1,0,1,0,0,1,0,0,1,1,0,1,0,0]) (Li:=[(0,.str),(4,.str),(5,.str),(6,.sl),(7,.int .i64),(8,.int .i64),(9,.int .i64)]) (Lo:=[(8,.int .i64)]) (Lr:=[(2,.sl),(3,.bool)]) (S:=(fun n x w=>K_3p K n x.1 x.2.1 x.2.2.1 x.2.2.2.1 x.2.2.2.2.1 x.2.2.2.2.2.1 x.2.2.2.2.2.2.1 w)) (K_5t K) (K_5y K) rfl (Orc.cons (by kernel_rfl) (K_9h K [(2,4),(8,14),(36,67)] (by kernel_rfl)) (Orc.cons (by kernel_rfl) (K_9a K [(2,4),(8,14),(36,67)] (by kernel_rfl)) (Orc.nil _ _ _))) (by kernel_rfl) (fun _ _=>by kernel_rfl) (fun _ _ _=>by kernel_rfl) n
noncomputable def K_bq (K:Nat):SE:=stmt [(0,.str),(4,.str),(5,.str),(6,.sl),(7,.int .i64),(8,.int .i64),(9,.int .i64)] [(8,.int .i64)] [(2,.sl),(3,.bool)] [(2,4),(8,14),(36,67)] (fun x w=>K_3p K K x.1 x.2.1 x.2.2.1 x.2.2.2.1 x.2.2.2.2.1 x.2.2.2.2.2.1 x.2.2.2.2.2.2.1 w)
theorem K_dq(K:Nat)(R:Rg)(h:subRB [(2,4),(8,14),(36,67)] R=true):(K_bq K).Ok prog R (.block 2 (.loop (cd (bodyOf f35) [1,1,1,1,0,1,0,0,1,0,0,1,1,0,1,0,0]))):=K_56 (K_s9 K K) (K_1 h)
theorem K_sj(K:Nat)(n:Nat):StmtOk prog [(0,.str),(4,.str),(5,.str),(6,.sl),(7,.int .i64)] [(6,.sl)] [(2,.sl),(3,.bool)] [(2,4),(6,76)] ((fun n x w=>K_3x K n x.1 x.2.1 x.2.2.1 x.2.2.2.1 x.2.2.2.2.1 w) n) (.block 0 (.loop (cd (bodyOf f35) [1,1,1,1,0,1,0,0]))):=
  K_6o (O:=tabL [([1,1,1,1,0,1,0,0,1,0,0,0,0],K_bw K),([1,1,1,1,0,1,0,0,1,0,0,1,1,0,1],K_bq K),([1,1,1,1,0,1,0,0,1,0,0,1,1,0,1,0,0,1,0,0,1,1,0,1],K_85 K),([1,1,1,1,0,1,0,0,1,0,0,1,1,0,1,0,0,1,0,0,1,1,1,1,0,1],K_84 K)]) (root:=(bodyOf f35)) (π:=[1,1,1,1,0,1,0,0]) (Li:=[(0,.str),(4,.str),(5,.str),(6,.sl),(7,.int .i64)]) (Lo:=[(6,.sl)]) (Lr:=[(2,.sl),(3,.bool)]) (S:=(fun n x w=>K_3x K n x.1 x.2.1 x.2.2.1 x.2.2.2.1 x.2.2.2.2.1 w)) (K_5t K) (K_5y K) rfl (Orc.cons (by kernel_rfl) (K_di K [(2,4),(6,76)] (by kernel_rfl)) (Orc.cons (by kernel_rfl) (K_dq K [(2,4),(6,76)] (by kernel_rfl)) (Orc.cons (by kernel_rfl) (K_9h K [(2,4),(6,76)] (by kernel_rfl)) (Orc.cons (by kernel_rfl) (K_9a K [(2,4),(6,76)] (by kernel_rfl)) (Orc.nil _ _ _))))) (by kernel_rfl) (fun _ _=>by kernel_rfl) (fun _ _ _=>by kernel_rfl) n
noncomputable def K_h1 (K:Nat):SE:=stmt [(0,.str),(4,.str),(5,.str),(6,.sl),(7,.int .i64)] [(6,.sl)] [(2,.sl),(3,.bool)] [(2,4),(6,76)] (fun x w=>K_3x K K x.1 x.2.1 x.2.2.1 x.2.2.2.1 x.2.2.2.2.1 w)
theorem K_n6(K:Nat)(R:Rg)(h:subRB [(2,4),(6,76)] R=true):(K_h1 K).Ok prog R (.block 0 (.loop (cd (bodyOf f35) [1,1,1,1,0,1,0,0]))):=K_56 (K_sj K K) (K_1 h)
theorem K_gz:FunFacts prog 35 f35 (bodyOf f35) [(0,.str)] [(0,81)]:=⟨func35,by kernel_rfl,by kernel_rfl,by kernel_rfl,by kernel_rfl,by kernel_rfl⟩
theorem K_sl(K:Nat)(x:TT [(0,.str)])(w:World)(y:TR [.sl,.bool])(w2:World)(h:K_6k K x.1 w=some (y,w2)):Calls prog 35 (encA [(0,.str)] x).toArray w (fun e w3=>e= .returned (resV (encR [.sl,.bool] y))∧w3=w2):=
  K_h (O:=tabL [([1,1,1,1,0,1],K_h1 K),([1,1,1,1,0,1,0,0,1,0,0,0,0],K_bw K),([1,1,1,1,0,1,0,0,1,0,0,1,1,0,1],K_bq K),([1,1,1,1,0,1,0,0,1,0,0,1,1,0,1,0,0,1,0,0,1,1,0,1],K_85 K),([1,1,1,1,0,1,0,0,1,0,0,1,1,0,1,0,0,1,0,0,1,1,1,1,0,1],K_84 K)]) (Lp:=[(0,.str)]) (Rt:=[.sl,.bool]) (S:=(fun x w=>K_6k K x.1 w)) (K_5t K) (K_5y K) rfl K_gz (Orc.cons (by kernel_rfl) (K_n6 K [(0,81)] (by kernel_rfl)) (Orc.cons (by kernel_rfl) (K_di K [(0,81)] (by kernel_rfl)) (Orc.cons (by kernel_rfl) (K_dq K [(0,81)] (by kernel_rfl)) (Orc.cons (by kernel_rfl) (K_9h K [(0,81)] (by kernel_rfl)) (Orc.cons (by kernel_rfl) (K_9a K [(0,81)] (by kernel_rfl)) (Orc.nil _ _ _)))))) (fun _ _=>by kernel_rfl) x w y w2 h
noncomputable def K_lx (K:Nat):CE:=funE [(0,.str)] [.sl,.bool] (fun x w=>K_6k K x.1 w)
theorem K_wf(K:Nat):(K_lx K).Ok prog 35:=K_e K_gz fun x w y w2 h=>K_sl K x w y w2 h
noncomputable def K_yf (K:Nat):List (Nat×RE):=[(61,K_v K)]
theorem K_li(K:Nat):REnv.Ok prog (tab (K_yf K)):=(REnv.cons (K_13 K) (REnv.nil _))
noncomputable def K_7v (K:Nat) (rec:Int→Int→Int→Option (Out (Unit) (Int×Unit))) (a0:Int) (b1:Int) (v5:Int):Option (Out (Unit) (Int×Unit)):=
 if (decide (v5<256))=true then((K_d K (IntKind.u8.wrap v5) b1).bind fun r_1=>
 if (r_1.1 == a0)=true then(some (.ret ((IntKind.u8.wrap v5),()))) else(rec a0 b1 (IntKind.i64.wrap (v5+1)))) else(some (.norm ()))
noncomputable def K_4r (K:Nat) (n:Nat):Int→Int→Int→Option (Out (Unit) (Int×Unit)):=iter (fun _ _ _=>none) (K_7v K) n
noncomputable def K_av (K:Nat) (a0:Int) (b1:Int):Option (Int×Unit):=
 (K_4r K K a0 b1 0).bind fun y_2=>
 (match y_2 with
 | .norm z_3n=>(some (0,()))
 | .ret z_3r=>(some (z_3r.1,())))
theorem K_tv(K:Nat)(n:Nat):StmtQOk prog [(0,.int .u8),(1,.int .u8),(5,.int .i64)] [] [(4,.int .u8)] [(4,18)] ((fun n x w=>K_4r K n x.1 x.2.1 x.2.2.1) n) (.block 0 (.loop (cd (bodyOf f60) [1,0,1,0,0]))):=
  K_j9 (O:=tabL []) (root:=(bodyOf f60)) (π:=[1,0,1,0,0]) (Li:=[(0,.int .u8),(1,.int .u8),(5,.int .i64)]) (Lo:=[]) (Lr:=[(4,.int .u8)]) (S:=(fun n x w=>K_4r K n x.1 x.2.1 x.2.2.1)) (K_li K) (OrcQ.nil _ _ _) (by kernel_rfl) (fun _ _=>by kernel_rfl) (fun _ _ _=>by kernel_rfl) n
noncomputable def K_ig (K:Nat):SQ:=stmtQ [(0,.int .u8),(1,.int .u8),(5,.int .i64)] [] [(4,.int .u8)] [(4,18)] (fun x w=>K_4r K K x.1 x.2.1 x.2.2.1)
theorem K_p9(K:Nat)(R:Rg)(h:subRB [(4,18)] R=true):(K_ig K).Ok prog R (.block 0 (.loop (cd (bodyOf f60) [1,0,1,0,0]))):=K_9b (K_tv K K) (K_1 h)
theorem K_it:FunFacts prog 60 f60 (bodyOf f60) [(0,.int .u8),(1,.int .u8)] [(0,18)]:=⟨func60,by kernel_rfl,by kernel_rfl,by kernel_rfl,by kernel_rfl,by kernel_rfl⟩
theorem K_tm(K:Nat)(x:TT [(0,.int .u8),(1,.int .u8)])(w:World)(y:TR [.int .u8])(h:K_av K x.1 x.2.1=some y):Calls prog 60 (encA [(0,.int .u8),(1,.int .u8)] x).toArray w (fun e w3=>e= .returned (resV (encR [.int .u8] y))∧w3=w):=
  K_6m (O:=tabL [([1,0,1],K_ig K)]) (Lp:=[(0,.int .u8),(1,.int .u8)]) (Rt:=[.int .u8]) (S:=(fun x w=>K_av K x.1 x.2.1)) (K_li K) K_it (OrcQ.cons (by kernel_rfl) (K_p9 K [(0,18)] (by kernel_rfl)) (OrcQ.nil _ _ _)) (fun _ _=>by kernel_rfl) x w y h
noncomputable def K_op (K:Nat):RE:=funR [(0,.int .u8),(1,.int .u8)] [.int .u8] (fun x w=>K_av K x.1 x.2.1)
theorem K_xz(K:Nat):(K_op K).Ok prog 60:=K_6p K_it fun x w y h=>K_tm K x w y h
end Go.Sh

namespace Go.Sh
open Go.Fw Go.Proofs.Tryd
noncomputable def K_v8 (K:Nat):List (Nat×CE):=[]
theorem K_4m(K:Nat):Env.Ok prog (tab (K_v8 K)):=(Env.nil _)
noncomputable def K_v2 (K:Nat):List (Nat×RE):=[(60,K_op K),(61,K_v K)]
theorem K_4p(K:Nat):REnv.Ok prog (tab (K_v2 K)):=(REnv.cons (K_xz K) (REnv.cons (K_13 K) (REnv.nil _)))
noncomputable def K_5q (K:Nat) (rec:Sl→Int→Sl→Int→Int→World→Option ((Unit)×World)) (x0:Sl) (n5:Int) (d6:Sl) (k7:Int) (i8:Int) (w:World):Option ((Unit)×World):=
 if (decide (i8≥k7))=true then((d6.a).bind fun p_5=>
 if (0:Int)≤i8∧i8<((d6.len:Nat):Int) then((d6.a).bind fun p_6=>
 if (0:Int)≤(IntKind.i64.wrap (i8 - 1))∧(IntKind.i64.wrap (i8 - 1))<((d6.len:Nat):Int) then((x0.a).bind fun p_7=>
 if (0:Int)≤i8∧i8<((x0.len:Nat):Int) then((x0.a).bind fun p_8=>
 if (0:Int)≤(IntKind.i64.wrap (i8 - k7))∧(IntKind.i64.wrap (i8 - k7))<((x0.len:Nat):Int) then((ldI .u8 (p_5.add ((Int.toNat i8)*1)) w.drew).bind fun v_9=>
 (ldI .u8 (p_6.add ((Int.toNat (IntKind.i64.wrap (i8 - 1)))*1)) w.drew).bind fun v_10=>
 (ldI .u8 (p_7.add ((Int.toNat i8)*1)) w.drew).bind fun v_11=>
 (ldI .u8 (p_8.add ((Int.toNat (IntKind.i64.wrap (i8 - k7)))*1)) w.drew).bind fun v_12=>
 (K_av K (bits .xor .u8 v_9 v_10) (bits .xor .u8 v_11 v_12)).bind fun r_13=>
 (d6.a).bind fun p_14=>
 if (0:Int)≤i8∧i8<((d6.len:Nat):Int) then((stC (p_14.add ((Int.toNat i8)*1)) (.int .u8 r_13.1) w.drew).bind fun w_15=>
 rec x0 n5 d6 k7 (IntKind.i64.wrap (i8 - 1)) w_15) else none) else none) else none) else none) else none) else(some ((),w))
noncomputable def K_3h (K:Nat) (n:Nat):Sl→Int→Sl→Int→Int→World→Option ((Unit)×World):=iter (fun _ _ _ _ _ _=>none) (K_5q K) n
noncomputable def K_5d (K:Nat) (rec:Sl→Int→Sl→Int→World→Option ((Unit)×World)) (x0:Sl) (n5:Int) (d6:Sl) (k7:Int) (w:World):Option ((Unit)×World):=
 if (decide (k7<n5))=true then(bnd (K_3h K K x0 n5 d6 k7 (IntKind.i64.wrap (n5 - 1)) w) fun y_16 w_17=>
 rec x0 n5 d6 (IntKind.i64.wrap (k7+1)) w_17) else(some ((),w))
noncomputable def K_2c (K:Nat) (n:Nat):Sl→Int→Sl→Int→World→Option ((Unit)×World):=iter (fun _ _ _ _ _=>none) (K_5d K) n
noncomputable def K_78 (K:Nat) (l9:Sl) (next11:Sl) (j12:Int) (a71:Bool) (w:World):Option ((Unit)×World):=
 if a71=true then((l9.a).bind fun p_24=>
 if (0:Int)≤(IntKind.i64.wrap (j12 - 1))∧(IntKind.i64.wrap (j12 - 1))<((l9.len:Nat):Int) then((ldI .u8 (p_24.add ((Int.toNat (IntKind.i64.wrap (j12 - 1)))*1)) w).bind fun v_25=>
 (next11.a).bind fun p_26=>
 if (0:Int)≤j12∧j12<((next11.len:Nat):Int) then((stC (p_26.add ((Int.toNat j12)*1)) (.int .u8 v_25) w).bind fun w_27=>
 some ((),w_27)) else none) else none) else(some ((),w))
noncomputable def K_5i (K:Nat) (rec:Sl→Int→Sl→Sl→Int→Sl→Int→World→Option ((Unit)×World)) (x0:Sl) (n5:Int) (d6:Sl) (l9:Sl) (i10:Int) (next11:Sl) (j12:Int) (w:World):Option ((Unit)×World):=
 if (decide (j12<n5))=true then(bnd (K_78 K l9 next11 j12 (decide (j12 > 0)) w) fun y_28 w_29=>
 (next11.a).bind fun p_30=>
 if (0:Int)≤j12∧j12<((next11.len:Nat):Int) then((l9.a).bind fun p_31=>
 if (0:Int)≤j12∧j12<((l9.len:Nat):Int) then((x0.a).bind fun p_32=>
 if (0:Int)≤i10∧i10<((x0.len:Nat):Int) then((ldI .u8 (p_30.add ((Int.toNat j12)*1)) w_29.drew).bind fun v_33=>
 (ldI .u8 (p_31.add ((Int.toNat j12)*1)) w_29.drew).bind fun v_34=>
 (ldI .u8 (p_32.add ((Int.toNat i10)*1)) w_29.drew).bind fun v_35=>
 (K_d K v_34 v_35).bind fun r_36=>
 (next11.a).bind fun p_37=>
 if (0:Int)≤j12∧j12<((next11.len:Nat):Int) then((stC (p_37.add ((Int.toNat j12)*1)) (.int .u8 (bits .xor .u8 v_33 r_36.1)) w_29.drew).bind fun w_38=>
 rec x0 n5 d6 l9 i10 next11 (IntKind.i64.wrap (j12+1)) w_38) else none) else none) else none) else none) else(some ((),w))
noncomputable def K_2f (K:Nat) (n:Nat):Sl→Int→Sl→Sl→Int→Sl→Int→World→Option ((Unit)×World):=iter (fun _ _ _ _ _ _ _ _=>none) (K_5i K) n
noncomputable def K_5c (K:Nat) (rec:Sl→Int→Sl→Sl→Int→World→Option ((Sl×Unit)×World)) (x0:Sl) (n5:Int) (d6:Sl) (l9:Sl) (i10:Int) (w:World):Option ((Sl×Unit)×World):=
 if (decide (i10≥0))=true then(bnd (mkS prog 23 (.int .i64 n5) (.int .i64 n5) w) fun s_22 w_23=>
 bnd (K_2f K K x0 n5 d6 l9 i10 s_22 0 w_23) fun y_39 w_40=>
 (s_22.a).bind fun p_41=>
 if (0:Int)≤0∧0<((s_22.len:Nat):Int) then((d6.a).bind fun p_42=>
 if (0:Int)≤i10∧i10<((d6.len:Nat):Int) then((ldI .u8 (p_41.add (0*1)) w_40.drew).bind fun v_43=>
 (ldI .u8 (p_42.add ((Int.toNat i10)*1)) w_40.drew).bind fun v_44=>
 (s_22.a).bind fun p_45=>
 if (0:Int)≤0∧0<((s_22.len:Nat):Int) then((stC (p_45.add (0*1)) (.int .u8 (bits .xor .u8 v_43 v_44)) w_40.drew).bind fun w_46=>
 rec x0 n5 d6 s_22 (IntKind.i64.wrap (i10 - 1)) w_46) else none) else none) else none) else(some ((l9,()),w))
noncomputable def K_3i (K:Nat) (n:Nat):Sl→Int→Sl→Sl→Int→World→Option ((Sl×Unit)×World):=iter (fun _ _ _ _ _ _=>none) (K_5c K) n
noncomputable def K_7j (K:Nat) (x0:Sl) (y1:Sl) (w:World):Option ((Sl×Unit)×World):=
 bnd (bldS prog 23 0 #[] w) fun s_1 w_2=>
 bnd (apd prog 23 23 (.slice s_1.a s_1.len s_1.cap) (.slice y1.a y1.len y1.cap) w_2) fun s_3 w_4=>
 bnd (K_2c K K x0 ((x0.len:Nat):Int) s_3 1 w_4) fun y_18 w_19=>
 bnd (mkS prog 23 (.int .i64 ((x0.len:Nat):Int)) (.int .i64 ((x0.len:Nat):Int)) w_19) fun s_20 w_21=>
 bnd (K_3i K K x0 ((x0.len:Nat):Int) s_3 s_20 (IntKind.i64.wrap (((x0.len:Nat):Int) - 1)) w_21) fun y_47 w_48=>
 some ((y_47.1,()),w_48)
theorem K_p1(K:Nat)(n:Nat):StmtNOk prog [(0,.sl),(5,.int .i64),(6,.sl),(7,.int .i64),(8,.int .i64)] [] [(8,9),(25,55)] ((fun n x w=>K_3h K n x.1 x.2.1 x.2.2.1 x.2.2.2.1 x.2.2.2.2.1 w) n) (.block 2 (.loop (cd (bodyOf f36) [1,1,1,0,1,0,0,1,0,0,1,0,0]))):=
  K_7 (O:=tabL []) (root:=(bodyOf f36)) (π:=[1,1,1,0,1,0,0,1,0,0,1,0,0]) (Li:=[(0,.sl),(5,.int .i64),(6,.sl),(7,.int .i64),(8,.int .i64)]) (Lo:=[]) (S:=(fun n x w=>K_3h K n x.1 x.2.1 x.2.2.1 x.2.2.2.1 x.2.2.2.2.1 w)) (K_4m K) (K_4p K) rfl (Orc.nil _ _ _) (by kernel_rfl) (fun _ _=>by kernel_rfl) (fun _ _ _=>by kernel_rfl) n
noncomputable def K_9x (K:Nat):SE:=stmtN [(0,.sl),(5,.int .i64),(6,.sl),(7,.int .i64),(8,.int .i64)] [] [(8,9),(25,55)] (fun x w=>K_3h K K x.1 x.2.1 x.2.2.1 x.2.2.2.1 x.2.2.2.2.1 w)
theorem K_ce(K:Nat)(R:Rg)(h:subRB [(8,9),(25,55)] R=true):(K_9x K).Ok prog R (.block 2 (.loop (cd (bodyOf f36) [1,1,1,0,1,0,0,1,0,0,1,0,0]))):=K_2 (K_p1 K K) (K_1 h)
theorem K_pp(K:Nat)(n:Nat):StmtNOk prog [(0,.sl),(5,.int .i64),(6,.sl),(7,.int .i64)] [] [(7,9),(18,55)] ((fun n x w=>K_2c K n x.1 x.2.1 x.2.2.1 x.2.2.2.1 w) n) (.block 0 (.loop (cd (bodyOf f36) [1,1,1,0,1,0,0]))):=
  K_7 (O:=tabL [([1,1,1,0,1,0,0,1,0,0,1],K_9x K)]) (root:=(bodyOf f36)) (π:=[1,1,1,0,1,0,0]) (Li:=[(0,.sl),(5,.int .i64),(6,.sl),(7,.int .i64)]) (Lo:=[]) (S:=(fun n x w=>K_2c K n x.1 x.2.1 x.2.2.1 x.2.2.2.1 w)) (K_4m K) (K_4p K) rfl (Orc.cons (by kernel_rfl) (K_ce K [(7,9),(18,55)] (by kernel_rfl)) (Orc.nil _ _ _)) (by kernel_rfl) (fun _ _=>by kernel_rfl) (fun _ _ _=>by kernel_rfl) n
noncomputable def K_e9 (K:Nat):SE:=stmtN [(0,.sl),(5,.int .i64),(6,.sl),(7,.int .i64)] [] [(7,9),(18,55)] (fun x w=>K_2c K K x.1 x.2.1 x.2.2.1 x.2.2.2.1 w)
theorem K_l5(K:Nat)(R:Rg)(h:subRB [(7,9),(18,55)] R=true):(K_e9 K).Ok prog R (.block 0 (.loop (cd (bodyOf f36) [1,1,1,0,1,0,0]))):=K_2 (K_pp K K) (K_1 h)
theorem K_p8(K:Nat):StmtNOk prog [(9,.sl),(11,.sl),(12,.int .i64),(71,.bool)] [] [(72,80)] (fun x w=>K_78 K x.1 x.2.1 x.2.2.1 x.2.2.2.1 w) (cd (bodyOf f36) [1,1,1,1,1,0,1,0,0,1,0,0,1,0,1,0,0,1,0,0,0,1]):=
  K_s (O:=tabL []) (root:=(bodyOf f36)) (π:=[1,1,1,1,1,0,1,0,0,1,0,0,1,0,1,0,0,1,0,0,0,1]) (K_4m K) (K_4p K) rfl (Orc.nil _ _ _) (by kernel_rfl) (fun _ _=>by kernel_rfl)
noncomputable def K_7e (K:Nat):SE:=stmtN [(9,.sl),(11,.sl),(12,.int .i64),(71,.bool)] [] [(72,80)] (fun x w=>K_78 K x.1 x.2.1 x.2.2.1 x.2.2.2.1 w)
theorem K_82(K:Nat)(R:Rg)(h:subRB [(72,80)] R=true):(K_7e K).Ok prog R (cd (bodyOf f36) [1,1,1,1,1,0,1,0,0,1,0,0,1,0,1,0,0,1,0,0,0,1]):=K_2 (K_p8 K) (K_1 h)
theorem K_pi(K:Nat)(n:Nat):StmtNOk prog [(0,.sl),(5,.int .i64),(6,.sl),(9,.sl),(10,.int .i64),(11,.sl),(12,.int .i64)] [] [(12,13),(65,97)] ((fun n x w=>K_2f K n x.1 x.2.1 x.2.2.1 x.2.2.2.1 x.2.2.2.2.1 x.2.2.2.2.2.1 x.2.2.2.2.2.2.1 w) n) (.block 6 (.loop (cd (bodyOf f36) [1,1,1,1,1,0,1,0,0,1,0,0,1,0,1,0,0]))):=
  K_7 (O:=tabL [([1,1,1,1,1,0,1,0,0,1,0,0,1,0,1,0,0,1,0,0,0,1],K_7e K)]) (root:=(bodyOf f36)) (π:=[1,1,1,1,1,0,1,0,0,1,0,0,1,0,1,0,0]) (Li:=[(0,.sl),(5,.int .i64),(6,.sl),(9,.sl),(10,.int .i64),(11,.sl),(12,.int .i64)]) (Lo:=[]) (S:=(fun n x w=>K_2f K n x.1 x.2.1 x.2.2.1 x.2.2.2.1 x.2.2.2.2.1 x.2.2.2.2.2.1 x.2.2.2.2.2.2.1 w)) (K_4m K) (K_4p K) rfl (Orc.cons (by kernel_rfl) (K_82 K [(12,13),(65,97)] (by kernel_rfl)) (Orc.nil _ _ _)) (by kernel_rfl) (fun _ _=>by kernel_rfl) (fun _ _ _=>by kernel_rfl) n
noncomputable def K_9t (K:Nat):SE:=stmtN [(0,.sl),(5,.int .i64),(6,.sl),(9,.sl),(10,.int .i64),(11,.sl),(12,.int .i64)] [] [(12,13),(65,97)] (fun x w=>K_2f K K x.1 x.2.1 x.2.2.1 x.2.2.2.1 x.2.2.2.2.1 x.2.2.2.2.2.1 x.2.2.2.2.2.2.1 w)
theorem K_ch(K:Nat)(R:Rg)(h:subRB [(12,13),(65,97)] R=true):(K_9t K).Ok prog R (.block 6 (.loop (cd (bodyOf f36) [1,1,1,1,1,0,1,0,0,1,0,0,1,0,1,0,0]))):=K_2 (K_pi K K) (K_1 h)
theorem K_q0(K:Nat)(n:Nat):StmtNOk prog [(0,.sl),(5,.int .i64),(6,.sl),(9,.sl),(10,.int .i64)] [(9,.sl)] [(9,13),(59,108)] ((fun n x w=>K_3i K n x.1 x.2.1 x.2.2.1 x.2.2.2.1 x.2.2.2.2.1 w) n) (.block 4 (.loop (cd (bodyOf f36) [1,1,1,1,1,0,1,0,0]))):=
  K_7 (O:=tabL [([1,1,1,1,1,0,1,0,0,1,0,0,1,0,1],K_9t K),([1,1,1,1,1,0,1,0,0,1,0,0,1,0,1,0,0,1,0,0,0,1],K_7e K)]) (root:=(bodyOf f36)) (π:=[1,1,1,1,1,0,1,0,0]) (Li:=[(0,.sl),(5,.int .i64),(6,.sl),(9,.sl),(10,.int .i64)]) (Lo:=[(9,.sl)]) (S:=(fun n x w=>K_3i K n x.1 x.2.1 x.2.2.1 x.2.2.2.1 x.2.2.2.2.1 w)) (K_4m K) (K_4p K) rfl (Orc.cons (by kernel_rfl) (K_ch K [(9,13),(59,108)] (by kernel_rfl)) (Orc.cons (by kernel_rfl) (K_82 K [(9,13),(59,108)] (by kernel_rfl)) (Orc.nil _ _ _))) (by kernel_rfl) (fun _ _=>by kernel_rfl) (fun _ _ _=>by kernel_rfl) n
noncomputable def K_ej (K:Nat):SE:=stmtN [(0,.sl),(5,.int .i64),(6,.sl),(9,.sl),(10,.int .i64)] [(9,.sl)] [(9,13),(59,108)] (fun x w=>K_3i K K x.1 x.2.1 x.2.2.1 x.2.2.2.1 x.2.2.2.2.1 w)
theorem K_kx(K:Nat)(R:Rg)(h:subRB [(9,13),(59,108)] R=true):(K_ej K).Ok prog R (.block 4 (.loop (cd (bodyOf f36) [1,1,1,1,1,0,1,0,0]))):=K_2 (K_q0 K K) (K_1 h)
theorem K_eh:FunFacts prog 36 f36 (bodyOf f36) [(0,.sl),(1,.sl)] [(0,109)]:=⟨func36,by kernel_rfl,by kernel_rfl,by kernel_rfl,by kernel_rfl,by kernel_rfl⟩
theorem K_p5(K:Nat)(x:TT [(0,.sl),(1,.sl)])(w:World)(y:TR [.sl])(w2:World)(h:K_7j K x.1 x.2.1 w=some (y,w2)):Calls prog 36 (encA [(0,.sl),(1,.sl)] x).toArray w (fun e w3=>e= .returned (resV (encR [.sl] y))∧w3=w2):=
  K_h (O:=tabL [([1,1,1,0,1],K_e9 K),([1,1,1,0,1,0,0,1,0,0,1],K_9x K),([1,1,1,1,1,0,1],K_ej K),([1,1,1,1,1,0,1,0,0,1,0,0,1,0,1],K_9t K),([1,1,1,1,1,0,1,0,0,1,0,0,1,0,1,0,0,1,0,0,0,1],K_7e K)]) (Lp:=[(0,.sl),(1,.sl)]) (Rt:=[.sl]) (S:=(fun x w=>K_7j K x.1 x.2.1 w)) (K_4m K) (K_4p K) rfl K_eh (Orc.cons (by kernel_rfl) (K_l5 K [(0,109)] (by kernel_rfl)) (Orc.cons (by kernel_rfl) (K_ce K [(0,109)] (by kernel_rfl)) (Orc.cons (by kernel_rfl) (K_kx K [(0,109)] (by kernel_rfl)) (Orc.cons (by kernel_rfl) (K_ch K [(0,109)] (by kernel_rfl)) (Orc.cons (by kernel_rfl) (K_82 K [(0,109)] (by kernel_rfl)) (Orc.nil _ _ _)))))) (fun _ _=>by kernel_rfl) x w y w2 h
noncomputable def K_ih (K:Nat):CE:=funE [(0,.sl),(1,.sl)] [.sl] (fun x w=>K_7j K x.1 x.2.1 w)
theorem K_tt(K:Nat):(K_ih K).Ok prog 36:=K_e K_eh fun x w y w2 h=>K_p5 K x w y w2 h
noncomputable def K_py (K:Nat):List (Nat×CE):=[(32,K_ec K),(33,K_os K),(16,K_au K),(35,K_lx K),(36,K_ih K)]
theorem K_c(K:Nat):Env.Ok prog (tab (K_py K)):=(Env.cons (K_ou K) (Env.cons (K_ya K) (Env.cons (K_eu K) (Env.cons (K_wf K) (Env.cons (K_tt K) (Env.nil _))))))
noncomputable def K_ps (K:Nat):List (Nat×RE):=[(19,K_du)]
theorem K_b(K:Nat):REnv.Ok prog (tab (K_ps K)):=(REnv.cons (K_j8) (REnv.nil _))
noncomputable def K_4c (K:Nat) (ok8:Bool) (w:World):Option ((Bool×Unit)×World):=
 bnd (K_b2 K w) fun r_7 w_8=>
 if (!r_7.1)=true then(some ((true,()),w_8)) else(some (((!ok8),()),w_8))
noncomputable def K_1v (K:Nat) (other1:Sl) (n9:Int) (i11:Int) (w:World):Option ((Bool×Unit)×World):=
 if (decide (i11<n9))=true then(some (((decide (i11<((other1.len:Nat):Int))),()),w)) else(some ((false,()),w))
noncomputable def K_38 (K:Nat) (rec:Sl→Int→Addr→Sl→Int→Sl→Int→World→Option ((Unit)×World)) (other1:Sl) (from2:Int) (d3:Addr) (l7:Sl) (n9:Int) (secret10:Sl) (i11:Int) (w:World):Option ((Unit)×World):=
 bnd (K_1v K other1 n9 i11 w) fun y_14 w_15=>
 if y_14.1=true then((other1.a).bind fun p_16=>
 if (0:Int)≤i11∧i11<((other1.len:Nat):Int) then((ldI .u8 (p_16.add ((Int.toNat i11)*1)) w_15).bind fun v_17=>
 (secret10.a).bind fun p_18=>
 if (0:Int)≤i11∧i11<((secret10.len:Nat):Int) then((stC (p_18.add ((Int.toNat i11)*1)) (.int .u8 v_17) w_15).bind fun w_19=>
 rec other1 from2 d3 l7 n9 secret10 (IntKind.i64.wrap (i11+1)) w_19) else none) else none) else(some ((),w_15))
noncomputable def K_1c (K:Nat) (n:Nat):Sl→Int→Addr→Sl→Int→Sl→Int→World→Option ((Unit)×World):=iter (fun _ _ _ _ _ _ _ _=>none) (K_38 K) n
noncomputable def K_4k (K:Nat) (one12:Sl) (e13:Int) (w:World):Option ((Bool×Unit)×World):=
 (K_2x e13).bind fun r_26=>
 if (r_26.1 != 0)=true then(some ((true,()),w)) else(some (((((one12.len:Nat):Int) != 1),()),w))
noncomputable def K_4j (K:Nat) (n9:Int) (row14:Sl) (well15:Bool) (w:World):Option ((Bool×Unit)×World):=
 if (!well15)=true then(some ((true,()),w)) else(some (((decide (((row14.len:Nat):Int)<(IntKind.i64.wrap ((IntKind.i64.wrap (5+n9))+4)))),()),w))
noncomputable def K_4i (K:Nat) (n9:Int) (at19:Int) (b20:Sl) (fine21:Bool) (w:World):Option ((Bool×Unit)×World):=
 if (!fine21)=true then(some ((true,()),w)) else(if (decide (((b20.len:Nat):Int)<(IntKind.i64.wrap ((IntKind.i64.wrap (5+n9))+4))))=true then(some ((true,()),w)) else((b20.a).bind fun p_42=>
 if (0:Int)≤3∧3<((b20.len:Nat):Int) then((ldI .u8 (p_42.add (3*1)) w).bind fun v_43=>
 some ((((IntKind.i64.wrap v_43) != (IntKind.i64.wrap (at19+1))),()),w)) else none))
noncomputable def K_37 (K:Nat) (rec:Int→Addr→Sl→Int→Sl→Sl→Sl→Sl→Int→World→Option ((Out (Sl×Sl×Unit) (Bool×Unit))×World)) (from2:Int) (d3:Addr) (l7:Sl) (n9:Int) (secret10:Sl) (row14:Sl) (x16:Sl) (known17:Sl) (i18:Int) (w:World):Option ((Out (Sl×Sl×Unit) (Bool×Unit))×World):=
 (ldI .i64 (d3.add 2) w).bind fun v_37=>
 if (decide (i18<(IntKind.i64.wrap (v_37 - 1))))=true then(if (IntKind.u64.wrap ((l7.len:Nat):Int))≠0 then(if ((l7.len:Nat):Int)≠0 then((l7.a).bind fun p_38=>
 if (0:Int)≤(Int.tmod (IntKind.i64.wrap (IntKind.u64.wrap ((Int.tmod (IntKind.u64.wrap from2) (IntKind.u64.wrap ((l7.len:Nat):Int)))+(IntKind.u64.wrap i18)))) ((l7.len:Nat):Int))∧(Int.tmod (IntKind.i64.wrap (IntKind.u64.wrap ((Int.tmod (IntKind.u64.wrap from2) (IntKind.u64.wrap ((l7.len:Nat):Int)))+(IntKind.u64.wrap i18)))) ((l7.len:Nat):Int))<((l7.len:Nat):Int) then((ldStr (p_38.add ((Int.toNat (Int.tmod (IntKind.i64.wrap (IntKind.u64.wrap ((Int.tmod (IntKind.u64.wrap from2) (IntKind.u64.wrap ((l7.len:Nat):Int)))+(IntKind.u64.wrap i18)))) ((l7.len:Nat):Int)))*1)) w).bind fun v_39=>
 bnd (K_6k K v_39 w) fun r_40 w_41=>
 bnd (K_4i K n9 (Int.tmod (IntKind.i64.wrap (IntKind.u64.wrap ((Int.tmod (IntKind.u64.wrap from2) (IntKind.u64.wrap ((l7.len:Nat):Int)))+(IntKind.u64.wrap i18)))) ((l7.len:Nat):Int)) r_40.1 r_40.2.1 w_41) fun y_44 w_45=>
 if y_44.1=true then(some (.ret (false,()),w_45)) else((r_40.1.a).bind fun p_46=>
 if (0:Int)≤3∧3<((r_40.1.len:Nat):Int) then((ldI .u8 (p_46.add (3*1)) w_45).bind fun v_47=>
 bnd (bldS prog 23 1 #[(0,(.int .u8 v_47))] w_45) fun s_48 w_49=>
 bnd (apd prog 23 23 (.slice x16.a x16.len x16.cap) (.slice s_48.a s_48.len s_48.cap) w_49) fun s_50 w_51=>
 if (0:Int)≤(IntKind.i64.wrap ((IntKind.i64.wrap (5+n9))+4))∧(IntKind.i64.wrap ((IntKind.i64.wrap (5+n9))+4))≤((r_40.1.cap:Nat):Int) then(if (0:Int)≤5∧5≤(((Int.toNat ((IntKind.i64.wrap ((IntKind.i64.wrap (5+n9))+4)))):Nat):Int) then(bnd (bldS prog 67 1 #[(0,(.slice (sla r_40.1.a 5 r_40.1.cap 1) ((Int.toNat ((IntKind.i64.wrap ((IntKind.i64.wrap (5+n9))+4)))) - 5) (r_40.1.cap - 5)))] w_51) fun s_52 w_53=>
 bnd (apd prog 67 67 (.slice known17.a known17.len known17.cap) (.slice s_52.a s_52.len s_52.cap) w_53) fun s_54 w_55=>
 rec from2 d3 l7 n9 secret10 row14 s_50 s_54 (IntKind.i64.wrap (i18+1)) w_55) else none) else none) else none)) else none) else none) else none) else(some (.norm (x16,known17,()),w))
noncomputable def K_19 (K:Nat) (n:Nat):Int→Addr→Sl→Int→Sl→Sl→Sl→Sl→Int→World→Option ((Out (Sl×Sl×Unit) (Bool×Unit))×World):=iter (fun _ _ _ _ _ _ _ _ _ _=>none) (K_37 K) n
noncomputable def K_39 (K:Nat) (rec:Addr→Sl→Int→Sl→Sl→Sl→Sl→Sl→Int→Sl→Int→World→Option ((Sl×Unit)×World)) (d3:Addr) (l7:Sl) (n9:Int) (secret10:Sl) (row14:Sl) (x16:Sl) (known17:Sl) (random22:Sl) (i23:Int) (y24:Sl) (j25:Int) (w:World):Option ((Sl×Unit)×World):=
 if (decide (j25<((known17.len:Nat):Int)))=true then((known17.a).bind fun p_66=>
 if (0:Int)≤j25∧j25<((known17.len:Nat):Int) then((ldS (p_66.add ((Int.toNat j25)*1)) w).bind fun v_67=>
 (v_67.a).bind fun p_68=>
 if (0:Int)≤i23∧i23<((v_67.len:Nat):Int) then((ldI .u8 (p_68.add ((Int.toNat i23)*1)) w).bind fun v_69=>
 bnd (bldS prog 23 1 #[(0,(.int .u8 v_69))] w) fun s_70 w_71=>
 bnd (apd prog 23 23 (.slice y24.a y24.len y24.cap) (.slice s_70.a s_70.len s_70.cap) w_71) fun s_72 w_73=>
 rec d3 l7 n9 secret10 row14 x16 known17 random22 i23 s_72 (IntKind.i64.wrap (j25+1)) w_73) else none) else none) else(some ((y24,()),w))
noncomputable def K_1d (K:Nat) (n:Nat):Addr→Sl→Int→Sl→Sl→Sl→Sl→Sl→Int→Sl→Int→World→Option ((Sl×Unit)×World):=iter (fun _ _ _ _ _ _ _ _ _ _ _ _=>none) (K_39 K) n
noncomputable def K_36 (K:Nat) (rec:Addr→Sl→Int→Sl→Sl→Sl→Sl→Sl→Int→Sl→Int→World→Option ((Unit)×World)) (d3:Addr) (l7:Sl) (n9:Int) (secret10:Sl) (row14:Sl) (x16:Sl) (known17:Sl) (random22:Sl) (i23:Int) (c26:Sl) (j27:Int) (w:World):Option ((Unit)×World):=
 (ldI .i64 (d3.add 2) w).bind fun v_78=>
 if (decide (j27<v_78))=true then((c26.a).bind fun p_79=>
 if (0:Int)≤j27∧j27<((c26.len:Nat):Int) then((ldI .u8 (p_79.add ((Int.toNat j27)*1)) w).bind fun v_80=>
 (random22.a).bind fun p_81=>
 if (0:Int)≤(IntKind.i64.wrap ((IntKind.i64.wrap ((IntKind.i64.wrap (j27 - 1))*(IntKind.i64.wrap (n9+4))))+i23))∧(IntKind.i64.wrap ((IntKind.i64.wrap ((IntKind.i64.wrap (j27 - 1))*(IntKind.i64.wrap (n9+4))))+i23))<((random22.len:Nat):Int) then((stC (p_81.add ((Int.toNat (IntKind.i64.wrap ((IntKind.i64.wrap ((IntKind.i64.wrap (j27 - 1))*(IntKind.i64.wrap (n9+4))))+i23)))*1)) (.int .u8 v_80) w).bind fun w_82=>
 rec d3 l7 n9 secret10 row14 x16 known17 random22 i23 c26 (IntKind.i64.wrap (j27+1)) w_82) else none) else none) else(some ((),w))
noncomputable def K_18 (K:Nat) (n:Nat):Addr→Sl→Int→Sl→Sl→Sl→Sl→Sl→Int→Sl→Int→World→Option ((Unit)×World):=iter (fun _ _ _ _ _ _ _ _ _ _ _ _=>none) (K_36 K) n
noncomputable def K_35 (K:Nat) (rec:Addr→Sl→Int→Sl→Sl→Sl→Sl→Sl→Int→World→Option ((Unit)×World)) (d3:Addr) (l7:Sl) (n9:Int) (secret10:Sl) (row14:Sl) (x16:Sl) (known17:Sl) (random22:Sl) (i23:Int) (w:World):Option ((Unit)×World):=
 if (decide (i23<(IntKind.i64.wrap (n9+4))))=true then((row14.a).bind fun p_62=>
 if (0:Int)≤i23∧i23<((row14.len:Nat):Int) then((ldI .u8 (p_62.add ((Int.toNat i23)*1)) w).bind fun v_63=>
 bnd (bldS prog 23 1 #[(0,(.int .u8 v_63))] w) fun s_64 w_65=>
 bnd (K_1d K K d3 l7 n9 secret10 row14 x16 known17 random22 i23 s_64 0 w_65) fun y_74 w_75=>
 bnd (K_7j K x16 y_74.1 w_75) fun r_76 w_77=>
 bnd (K_18 K K d3 l7 n9 secret10 row14 x16 known17 random22 i23 r_76.1 1 w_77) fun y_83 w_84=>
 rec d3 l7 n9 secret10 row14 x16 known17 random22 (IntKind.i64.wrap (i23+1)) w_84) else none) else(some ((),w))
noncomputable def K_1b (K:Nat) (n:Nat):Addr→Sl→Int→Sl→Sl→Sl→Sl→Sl→Int→World→Option ((Unit)×World):=iter (fun _ _ _ _ _ _ _ _ _ _=>none) (K_35 K) n
noncomputable def K_3z (K:Nat) (l7:Sl) (m28:Sl) (f29:Int) (w:World):Option ((Bool×Unit)×World):=
 (K_2x f29).bind fun r_92=>
 if (r_92.1 != 0)=true then(some ((true,()),w)) else(some (((((m28.len:Nat):Int) != ((l7.len:Nat):Int)),()),w))
noncomputable def K_2l (K:Nat) (rec:Sl→Sl→Sl→Int→World→Option ((Out (Unit) (Bool×Unit))×World)) (l7:Sl) (x16:Sl) (m28:Sl) (i30:Int) (w:World):Option ((Out (Unit) (Bool×Unit))×World):=
 if (decide (i30<((x16.len:Nat):Int)))=true then((x16.a).bind fun p_95=>
 if (0:Int)≤i30∧i30<((x16.len:Nat):Int) then((x16.a).bind fun p_96=>
 if (0:Int)≤i30∧i30<((x16.len:Nat):Int) then((ldI .u8 (p_95.add ((Int.toNat i30)*1)) w.drew).bind fun v_97=>
 (m28.a).bind fun p_98=>
 if (0:Int)≤(IntKind.i64.wrap ((IntKind.i64.wrap v_97) - 1))∧(IntKind.i64.wrap ((IntKind.i64.wrap v_97) - 1))<((m28.len:Nat):Int) then((ldStr (p_98.add ((Int.toNat (IntKind.i64.wrap ((IntKind.i64.wrap v_97) - 1)))*1)) w.drew).bind fun v_99=>
 (ldI .u8 (p_96.add ((Int.toNat i30)*1)) w.drew).bind fun v_100=>
 (l7.a).bind fun p_101=>
 if (0:Int)≤(IntKind.i64.wrap ((IntKind.i64.wrap v_100) - 1))∧(IntKind.i64.wrap ((IntKind.i64.wrap v_100) - 1))<((l7.len:Nat):Int) then((ldStr (p_101.add ((Int.toNat (IntKind.i64.wrap ((IntKind.i64.wrap v_100) - 1)))*1)) w.drew).bind fun v_102=>
 if (!(v_99.toList == v_102.toList))=true then(some (.ret (false,()),w.drew)) else(rec l7 x16 m28 (IntKind.i64.wrap (i30+1)) w.drew)) else none) else none) else none) else none) else(some (.norm (),w))
noncomputable def K_12 (K:Nat) (n:Nat):Sl→Sl→Sl→Int→World→Option ((Out (Unit) (Bool×Unit))×World):=iter (fun _ _ _ _ _=>none) (K_2l K) n
noncomputable def K_88 (K:Nat) (d0:Array Value) (other1:Sl) (from2:Int) (w:World):Option ((Bool×Unit)×World):=
 bnd (newB d0 25 w) fun p_1 w_2=>
 (ldA 6 p_1 w_2).bind fun v_3=>
 bnd (K_55 K v_3 w_2) fun r_4 w_5=>
 if (r_4.1).size=6 then((stA p_1 r_4.1 w_5).bind fun w_6=>
 bnd (K_4c K r_4.2.2.1 w_6) fun y_9 w_10=>
 if y_9.1=true then(some ((false,()),w_10)) else((ldS (p_1.add 1) w_10).bind fun v_11=>
 bnd (mkS prog 23 (.int .i64 ((v_11.len:Nat):Int)) (.int .i64 ((v_11.len:Nat):Int)) w_10) fun s_12 w_13=>
 bnd (K_1c K K other1 from2 p_1 r_4.2.1 ((v_11.len:Nat):Int) s_12 0 w_13) fun y_20 w_21=>
 (ldI .i64 (p_1.add 2) w_21).bind fun v_22=>
 if (v_22 == 1)=true then(some ((true,()),w_21)) else((ldI .u16 (p_1.add 0) w_21).bind fun v_23=>
 bnd (K_34 K v_23 s_12 1 1 ⟨none,0,0⟩ w_21) fun r_24 w_25=>
 bnd (K_4k K r_24.1 r_24.2.1 w_25) fun y_27 w_28=>
 if y_27.1=true then(some ((false,()),w_28)) else((r_24.1.a).bind fun p_29=>
 if (0:Int)≤0∧0<((r_24.1.len:Nat):Int) then((ldStr (p_29.add (0*1)) w_28).bind fun v_30=>
 bnd (K_6k K v_30 w_28) fun r_31 w_32=>
 bnd (K_4j K ((v_11.len:Nat):Int) r_31.1 r_31.2.1 w_32) fun y_33 w_34=>
 if y_33.1=true then(some ((false,()),w_34)) else(if (0:Int)≤(IntKind.i64.wrap ((IntKind.i64.wrap (5+((v_11.len:Nat):Int)))+4))∧(IntKind.i64.wrap ((IntKind.i64.wrap (5+((v_11.len:Nat):Int)))+4))≤((r_31.1.cap:Nat):Int) then(if (0:Int)≤5∧5≤(((Int.toNat ((IntKind.i64.wrap ((IntKind.i64.wrap (5+((v_11.len:Nat):Int)))+4)))):Nat):Int) then(bnd (bldS prog 23 1 #[(0,(.int .u8 0))] w_34) fun s_35 w_36=>
 bnd (K_19 K K from2 p_1 r_4.2.1 ((v_11.len:Nat):Int) s_12 ⟨(sla r_31.1.a 5 r_31.1.cap 1),((Int.toNat ((IntKind.i64.wrap ((IntKind.i64.wrap (5+((v_11.len:Nat):Int)))+4)))) - 5),(r_31.1.cap - 5)⟩ s_35 ⟨none,0,0⟩ 0 w_36) fun y_56 w_57=>
 (match y_56 with
 | .norm z_58n=>((ldI .i64 (p_1.add 2) w_57).bind fun v_59=>
 bnd (mkS prog 23 (.int .i64 (IntKind.i64.wrap ((IntKind.i64.wrap (v_59 - 1))*(IntKind.i64.wrap (((v_11.len:Nat):Int)+4))))) (.int .i64 (IntKind.i64.wrap ((IntKind.i64.wrap (v_59 - 1))*(IntKind.i64.wrap (((v_11.len:Nat):Int)+4))))) w_57) fun s_60 w_61=>
 bnd (K_1b K K p_1 r_4.2.1 ((v_11.len:Nat):Int) s_12 ⟨(sla r_31.1.a 5 r_31.1.cap 1),((Int.toNat ((IntKind.i64.wrap ((IntKind.i64.wrap (5+((v_11.len:Nat):Int)))+4)))) - 5),(r_31.1.cap - 5)⟩ z_58n.1 z_58n.2.1 s_60 0 w_61) fun y_85 w_86=>
 (ldI .u16 (p_1.add 0) w_86).bind fun v_87=>
 (ldI .i64 (p_1.add 2) w_86).bind fun v_88=>
 (ldI .i64 (p_1.add 3) w_86).bind fun v_89=>
 bnd (K_34 K v_87 s_12 v_88 v_89 s_60 w_86) fun r_90 w_91=>
 bnd (K_3z K r_4.2.1 r_90.1 r_90.2.1 w_91) fun y_93 w_94=>
 if y_93.1=true then(some ((false,()),w_94)) else(bnd (K_12 K K r_4.2.1 z_58n.1 r_90.1 1 w_94) fun y_103 w_104=>
 (match y_103 with
 | .norm z_105n=>(some ((true,()),w_104))
 | .ret z_105r=>(some ((z_105r.1,()),w_104)))))
 | .ret z_58r=>(some ((z_58r.1,()),w_57)))) else none) else none)) else none)))) else none
theorem K_jg(K:Nat):StmtNOk prog [(8,.bool)] [(42,.bool)] [(37,43)] (fun x w=>K_4c K x.1 w) (cd (bodyOf f7) [1,1,0,0]):=
  K_s (O:=tabL []) (root:=(bodyOf f7)) (π:=[1,1,0,0]) (K_c K) (K_b K) rfl (Orc.nil _ _ _) (by kernel_rfl) (fun _ _=>by kernel_rfl)
noncomputable def K_b5 (K:Nat):SE:=stmtN [(8,.bool)] [(42,.bool)] [(37,43)] (fun x w=>K_4c K x.1 w)
theorem K_g7(K:Nat)(R:Rg)(h:subRB [(37,43)] R=true):(K_b5 K).Ok prog R (cd (bodyOf f7) [1,1,0,0]):=K_2 (K_jg K) (K_1 h)
theorem K_ju(K:Nat):StmtNOk prog [(1,.sl),(9,.int .i64),(11,.int .i64)] [(56,.bool)] [(48,57)] (fun x w=>K_1v K x.1 x.2.1 x.2.2.1 w) (cd (bodyOf f7) [1,1,1,1,1,0,1,0,0,0,0]):=
  K_s (O:=tabL []) (root:=(bodyOf f7)) (π:=[1,1,1,1,1,0,1,0,0,0,0]) (K_c K) (K_b K) rfl (Orc.nil _ _ _) (by kernel_rfl) (fun _ _=>by kernel_rfl)
noncomputable def K_7f (K:Nat):SE:=stmtN [(1,.sl),(9,.int .i64),(11,.int .i64)] [(56,.bool)] [(48,57)] (fun x w=>K_1v K x.1 x.2.1 x.2.2.1 w)
theorem K_9i(K:Nat)(R:Rg)(h:subRB [(48,57)] R=true):(K_7f K).Ok prog R (cd (bodyOf f7) [1,1,1,1,1,0,1,0,0,0,0]):=K_2 (K_ju K) (K_1 h)
theorem K_k1(K:Nat)(n:Nat):StmtNOk prog [(1,.sl),(2,.int .i64),(3,.addr),(7,.sl),(9,.int .i64),(10,.sl),(11,.int .i64)] [] [(11,12),(48,66)] ((fun n x w=>K_1c K n x.1 x.2.1 x.2.2.1 x.2.2.2.1 x.2.2.2.2.1 x.2.2.2.2.2.1 x.2.2.2.2.2.2.1 w) n) (.block 0 (.loop (cd (bodyOf f7) [1,1,1,1,1,0,1,0,0]))):=
  K_7 (O:=tabL [([1,1,1,1,1,0,1,0,0,0,0],K_7f K)]) (root:=(bodyOf f7)) (π:=[1,1,1,1,1,0,1,0,0]) (Li:=[(1,.sl),(2,.int .i64),(3,.addr),(7,.sl),(9,.int .i64),(10,.sl),(11,.int .i64)]) (Lo:=[]) (S:=(fun n x w=>K_1c K n x.1 x.2.1 x.2.2.1 x.2.2.2.1 x.2.2.2.2.1 x.2.2.2.2.2.1 x.2.2.2.2.2.2.1 w)) (K_c K) (K_b K) rfl (Orc.cons (by kernel_rfl) (K_9i K [(11,12),(48,66)] (by kernel_rfl)) (Orc.nil _ _ _)) (by kernel_rfl) (fun _ _=>by kernel_rfl) (fun _ _ _=>by kernel_rfl) n
noncomputable def K_bm (K:Nat):SE:=stmtN [(1,.sl),(2,.int .i64),(3,.addr),(7,.sl),(9,.int .i64),(10,.sl),(11,.int .i64)] [] [(11,12),(48,66)] (fun x w=>K_1c K K x.1 x.2.1 x.2.2.1 x.2.2.2.1 x.2.2.2.2.1 x.2.2.2.2.2.1 x.2.2.2.2.2.2.1 w)
theorem K_g5(K:Nat)(R:Rg)(h:subRB [(11,12),(48,66)] R=true):(K_bm K).Ok prog R (.block 0 (.loop (cd (bodyOf f7) [1,1,1,1,1,0,1,0,0]))):=K_2 (K_k1 K K) (K_1 h)
theorem K_js(K:Nat):StmtNOk prog [(12,.sl),(13,.int .i64)] [(83,.bool)] [(76,84)] (fun x w=>K_4k K x.1 x.2.1 w) (cd (bodyOf f7) [1,1,1,1,1,1,1,1,0,0]):=
  K_s (O:=tabL []) (root:=(bodyOf f7)) (π:=[1,1,1,1,1,1,1,1,0,0]) (K_c K) (K_b K) rfl (Orc.nil _ _ _) (by kernel_rfl) (fun _ _=>by kernel_rfl)
noncomputable def K_bj (K:Nat):SE:=stmtN [(12,.sl),(13,.int .i64)] [(83,.bool)] [(76,84)] (fun x w=>K_4k K x.1 x.2.1 w)
theorem K_gd(K:Nat)(R:Rg)(h:subRB [(76,84)] R=true):(K_bj K).Ok prog R (cd (bodyOf f7) [1,1,1,1,1,1,1,1,0,0]):=K_2 (K_js K) (K_1 h)
theorem K_jj(K:Nat):StmtNOk prog [(9,.int .i64),(14,.sl),(15,.bool)] [(100,.bool)] [(91,101)] (fun x w=>K_4j K x.1 x.2.1 x.2.2.1 w) (cd (bodyOf f7) [1,1,1,1,1,1,1,1,1,1,0,0]):=
  K_s (O:=tabL []) (root:=(bodyOf f7)) (π:=[1,1,1,1,1,1,1,1,1,1,0,0]) (K_c K) (K_b K) rfl (Orc.nil _ _ _) (by kernel_rfl) (fun _ _=>by kernel_rfl)
noncomputable def K_b6 (K:Nat):SE:=stmtN [(9,.int .i64),(14,.sl),(15,.bool)] [(100,.bool)] [(91,101)] (fun x w=>K_4j K x.1 x.2.1 x.2.2.1 w)
theorem K_gf(K:Nat)(R:Rg)(h:subRB [(91,101)] R=true):(K_b6 K).Ok prog R (cd (bodyOf f7) [1,1,1,1,1,1,1,1,1,1,0,0]):=K_2 (K_jj K) (K_1 h)
theorem K_jl(K:Nat):StmtNOk prog [(9,.int .i64),(19,.int .i64),(20,.sl),(21,.bool)] [(153,.bool)] [(135,154)] (fun x w=>K_4i K x.1 x.2.1 x.2.2.1 x.2.2.2.1 w) (cd (bodyOf f7) [1,1,1,1,1,1,1,1,1,1,1,1,1,1,0,1,0,0,1,0,0,1,1,0,0]):=
  K_s (O:=tabL []) (root:=(bodyOf f7)) (π:=[1,1,1,1,1,1,1,1,1,1,1,1,1,1,0,1,0,0,1,0,0,1,1,0,0]) (K_c K) (K_b K) rfl (Orc.nil _ _ _) (by kernel_rfl) (fun _ _=>by kernel_rfl)
noncomputable def K_7i (K:Nat):SE:=stmtN [(9,.int .i64),(19,.int .i64),(20,.sl),(21,.bool)] [(153,.bool)] [(135,154)] (fun x w=>K_4i K x.1 x.2.1 x.2.2.1 x.2.2.2.1 w)
theorem K_9l(K:Nat)(R:Rg)(h:subRB [(135,154)] R=true):(K_7i K).Ok prog R (cd (bodyOf f7) [1,1,1,1,1,1,1,1,1,1,1,1,1,1,0,1,0,0,1,0,0,1,1,0,0]):=K_2 (K_jl K) (K_1 h)
theorem K_jm(K:Nat)(n:Nat):StmtOk prog [(2,.int .i64),(3,.addr),(7,.sl),(9,.int .i64),(10,.sl),(14,.sl),(16,.sl),(17,.sl),(18,.int .i64)] [(16,.sl),(17,.sl)] [(6,.bool)] [(6,7),(16,22),(107,168)] ((fun n x w=>K_19 K n x.1 x.2.1 x.2.2.1 x.2.2.2.1 x.2.2.2.2.1 x.2.2.2.2.2.1 x.2.2.2.2.2.2.1 x.2.2.2.2.2.2.2.1 x.2.2.2.2.2.2.2.2.1 w) n) (.block 2 (.loop (cd (bodyOf f7) [1,1,1,1,1,1,1,1,1,1,1,1,1,1,0,1,0,0]))):=
  K_6o (O:=tabL [([1,1,1,1,1,1,1,1,1,1,1,1,1,1,0,1,0,0,1,0,0,1,1,0,0],K_7i K)]) (root:=(bodyOf f7)) (π:=[1,1,1,1,1,1,1,1,1,1,1,1,1,1,0,1,0,0]) (Li:=[(2,.int .i64),(3,.addr),(7,.sl),(9,.int .i64),(10,.sl),(14,.sl),(16,.sl),(17,.sl),(18,.int .i64)]) (Lo:=[(16,.sl),(17,.sl)]) (Lr:=[(6,.bool)]) (S:=(fun n x w=>K_19 K n x.1 x.2.1 x.2.2.1 x.2.2.2.1 x.2.2.2.2.1 x.2.2.2.2.2.1 x.2.2.2.2.2.2.1 x.2.2.2.2.2.2.2.1 x.2.2.2.2.2.2.2.2.1 w)) (K_c K) (K_b K) rfl (Orc.cons (by kernel_rfl) (K_9l K [(6,7),(16,22),(107,168)] (by kernel_rfl)) (Orc.nil _ _ _)) (by kernel_rfl) (fun _ _=>by kernel_rfl) (fun _ _ _=>by kernel_rfl) n
noncomputable def K_bg (K:Nat):SE:=stmt [(2,.int .i64),(3,.addr),(7,.sl),(9,.int .i64),(10,.sl),(14,.sl),(16,.sl),(17,.sl),(18,.int .i64)] [(16,.sl),(17,.sl)] [(6,.bool)] [(6,7),(16,22),(107,168)] (fun x w=>K_19 K K x.1 x.2.1 x.2.2.1 x.2.2.2.1 x.2.2.2.2.1 x.2.2.2.2.2.1 x.2.2.2.2.2.2.1 x.2.2.2.2.2.2.2.1 x.2.2.2.2.2.2.2.2.1 w)
theorem K_g8(K:Nat)(R:Rg)(h:subRB [(6,7),(16,22),(107,168)] R=true):(K_bg K).Ok prog R (.block 2 (.loop (cd (bodyOf f7) [1,1,1,1,1,1,1,1,1,1,1,1,1,1,0,1,0,0]))):=K_56 (K_jm K K) (K_1 h)
theorem K_jh(K:Nat)(n:Nat):StmtNOk prog [(3,.addr),(7,.sl),(9,.int .i64),(10,.sl),(14,.sl),(16,.sl),(17,.sl),(22,.sl),(23,.int .i64),(24,.sl),(25,.int .i64)] [(24,.sl)] [(24,26),(186,202)] ((fun n x w=>K_1d K n x.1 x.2.1 x.2.2.1 x.2.2.2.1 x.2.2.2.2.1 x.2.2.2.2.2.1 x.2.2.2.2.2.2.1 x.2.2.2.2.2.2.2.1 x.2.2.2.2.2.2.2.2.1 x.2.2.2.2.2.2.2.2.2.1 x.2.2.2.2.2.2.2.2.2.2.1 w) n) (.block 6 (.loop (cd (bodyOf f7) [1,1,1,1,1,1,1,1,1,1,1,1,1,1,1,1,0,1,0,0,1,0,0,1,0,1,0,0]))):=
  K_7 (O:=tabL []) (root:=(bodyOf f7)) (π:=[1,1,1,1,1,1,1,1,1,1,1,1,1,1,1,1,0,1,0,0,1,0,0,1,0,1,0,0]) (Li:=[(3,.addr),(7,.sl),(9,.int .i64),(10,.sl),(14,.sl),(16,.sl),(17,.sl),(22,.sl),(23,.int .i64),(24,.sl),(25,.int .i64)]) (Lo:=[(24,.sl)]) (S:=(fun n x w=>K_1d K n x.1 x.2.1 x.2.2.1 x.2.2.2.1 x.2.2.2.2.1 x.2.2.2.2.2.1 x.2.2.2.2.2.2.1 x.2.2.2.2.2.2.2.1 x.2.2.2.2.2.2.2.2.1 x.2.2.2.2.2.2.2.2.2.1 x.2.2.2.2.2.2.2.2.2.2.1 w)) (K_c K) (K_b K) rfl (Orc.nil _ _ _) (by kernel_rfl) (fun _ _=>by kernel_rfl) (fun _ _ _=>by kernel_rfl) n
noncomputable def K_7g (K:Nat):SE:=stmtN [(3,.addr),(7,.sl),(9,.int .i64),(10,.sl),(14,.sl),(16,.sl),(17,.sl),(22,.sl),(23,.int .i64),(24,.sl),(25,.int .i64)] [(24,.sl)] [(24,26),(186,202)] (fun x w=>K_1d K K x.1 x.2.1 x.2.2.1 x.2.2.2.1 x.2.2.2.2.1 x.2.2.2.2.2.1 x.2.2.2.2.2.2.1 x.2.2.2.2.2.2.2.1 x.2.2.2.2.2.2.2.2.1 x.2.2.2.2.2.2.2.2.2.1 x.2.2.2.2.2.2.2.2.2.2.1 w)
theorem K_9m(K:Nat)(R:Rg)(h:subRB [(24,26),(186,202)] R=true):(K_7g K).Ok prog R (.block 6 (.loop (cd (bodyOf f7) [1,1,1,1,1,1,1,1,1,1,1,1,1,1,1,1,0,1,0,0,1,0,0,1,0,1,0,0]))):=K_2 (K_jh K K) (K_1 h)
theorem K_jf(K:Nat)(n:Nat):StmtNOk prog [(3,.addr),(7,.sl),(9,.int .i64),(10,.sl),(14,.sl),(16,.sl),(17,.sl),(22,.sl),(23,.int .i64),(26,.sl),(27,.int .i64)] [] [(27,28),(205,224)] ((fun n x w=>K_18 K n x.1 x.2.1 x.2.2.1 x.2.2.2.1 x.2.2.2.2.1 x.2.2.2.2.2.1 x.2.2.2.2.2.2.1 x.2.2.2.2.2.2.2.1 x.2.2.2.2.2.2.2.2.1 x.2.2.2.2.2.2.2.2.2.1 x.2.2.2.2.2.2.2.2.2.2.1 w) n) (.block 8 (.loop (cd (bodyOf f7) [1,1,1,1,1,1,1,1,1,1,1,1,1,1,1,1,0,1,0,0,1,0,0,1,1,1,1,0,0]))):=
  K_7 (O:=tabL []) (root:=(bodyOf f7)) (π:=[1,1,1,1,1,1,1,1,1,1,1,1,1,1,1,1,0,1,0,0,1,0,0,1,1,1,1,0,0]) (Li:=[(3,.addr),(7,.sl),(9,.int .i64),(10,.sl),(14,.sl),(16,.sl),(17,.sl),(22,.sl),(23,.int .i64),(26,.sl),(27,.int .i64)]) (Lo:=[]) (S:=(fun n x w=>K_18 K n x.1 x.2.1 x.2.2.1 x.2.2.2.1 x.2.2.2.2.1 x.2.2.2.2.2.1 x.2.2.2.2.2.2.1 x.2.2.2.2.2.2.2.1 x.2.2.2.2.2.2.2.2.1 x.2.2.2.2.2.2.2.2.2.1 x.2.2.2.2.2.2.2.2.2.2.1 w)) (K_c K) (K_b K) rfl (Orc.nil _ _ _) (by kernel_rfl) (fun _ _=>by kernel_rfl) (fun _ _ _=>by kernel_rfl) n
noncomputable def K_7h (K:Nat):SE:=stmtN [(3,.addr),(7,.sl),(9,.int .i64),(10,.sl),(14,.sl),(16,.sl),(17,.sl),(22,.sl),(23,.int .i64),(26,.sl),(27,.int .i64)] [] [(27,28),(205,224)] (fun x w=>K_18 K K x.1 x.2.1 x.2.2.1 x.2.2.2.1 x.2.2.2.2.1 x.2.2.2.2.2.1 x.2.2.2.2.2.2.1 x.2.2.2.2.2.2.2.1 x.2.2.2.2.2.2.2.2.1 x.2.2.2.2.2.2.2.2.2.1 x.2.2.2.2.2.2.2.2.2.2.1 w)
theorem K_9k(K:Nat)(R:Rg)(h:subRB [(27,28),(205,224)] R=true):(K_7h K).Ok prog R (.block 8 (.loop (cd (bodyOf f7) [1,1,1,1,1,1,1,1,1,1,1,1,1,1,1,1,0,1,0,0,1,0,0,1,1,1,1,0,0]))):=K_2 (K_jf K K) (K_1 h)
theorem K_jo(K:Nat)(n:Nat):StmtNOk prog [(3,.addr),(7,.sl),(9,.int .i64),(10,.sl),(14,.sl),(16,.sl),(17,.sl),(22,.sl),(23,.int .i64)] [] [(23,28),(175,224)] ((fun n x w=>K_1b K n x.1 x.2.1 x.2.2.1 x.2.2.2.1 x.2.2.2.2.1 x.2.2.2.2.2.1 x.2.2.2.2.2.2.1 x.2.2.2.2.2.2.2.1 x.2.2.2.2.2.2.2.2.1 w) n) (.block 4 (.loop (cd (bodyOf f7) [1,1,1,1,1,1,1,1,1,1,1,1,1,1,1,1,0,1,0,0]))):=
  K_7 (O:=tabL [([1,1,1,1,1,1,1,1,1,1,1,1,1,1,1,1,0,1,0,0,1,0,0,1,0,1],K_7g K),([1,1,1,1,1,1,1,1,1,1,1,1,1,1,1,1,0,1,0,0,1,0,0,1,1,1,1],K_7h K)]) (root:=(bodyOf f7)) (π:=[1,1,1,1,1,1,1,1,1,1,1,1,1,1,1,1,0,1,0,0]) (Li:=[(3,.addr),(7,.sl),(9,.int .i64),(10,.sl),(14,.sl),(16,.sl),(17,.sl),(22,.sl),(23,.int .i64)]) (Lo:=[]) (S:=(fun n x w=>K_1b K n x.1 x.2.1 x.2.2.1 x.2.2.2.1 x.2.2.2.2.1 x.2.2.2.2.2.1 x.2.2.2.2.2.2.1 x.2.2.2.2.2.2.2.1 x.2.2.2.2.2.2.2.2.1 w)) (K_c K) (K_b K) rfl (Orc.cons (by kernel_rfl) (K_9m K [(23,28),(175,224)] (by kernel_rfl)) (Orc.cons (by kernel_rfl) (K_9k K [(23,28),(175,224)] (by kernel_rfl)) (Orc.nil _ _ _))) (by kernel_rfl) (fun _ _=>by kernel_rfl) (fun _ _ _=>by kernel_rfl) n
noncomputable def K_be (K:Nat):SE:=stmtN [(3,.addr),(7,.sl),(9,.int .i64),(10,.sl),(14,.sl),(16,.sl),(17,.sl),(22,.sl),(23,.int .i64)] [] [(23,28),(175,224)] (fun x w=>K_1b K K x.1 x.2.1 x.2.2.1 x.2.2.2.1 x.2.2.2.2.1 x.2.2.2.2.2.1 x.2.2.2.2.2.2.1 x.2.2.2.2.2.2.2.1 x.2.2.2.2.2.2.2.2.1 w)
theorem K_gg(K:Nat)(R:Rg)(h:subRB [(23,28),(175,224)] R=true):(K_be K).Ok prog R (.block 4 (.loop (cd (bodyOf f7) [1,1,1,1,1,1,1,1,1,1,1,1,1,1,1,1,0,1,0,0]))):=K_2 (K_jo K K) (K_1 h)
theorem K_ix(K:Nat):StmtNOk prog [(7,.sl),(28,.sl),(29,.int .i64)] [(245,.bool)] [(236,246)] (fun x w=>K_3z K x.1 x.2.1 x.2.2.1 w) (cd (bodyOf f7) [1,1,1,1,1,1,1,1,1,1,1,1,1,1,1,1,1,1,0,0]):=
  K_s (O:=tabL []) (root:=(bodyOf f7)) (π:=[1,1,1,1,1,1,1,1,1,1,1,1,1,1,1,1,1,1,0,0]) (K_c K) (K_b K) rfl (Orc.nil _ _ _) (by kernel_rfl) (fun _ _=>by kernel_rfl)
noncomputable def K_ao (K:Nat):SE:=stmtN [(7,.sl),(28,.sl),(29,.int .i64)] [(245,.bool)] [(236,246)] (fun x w=>K_3z K x.1 x.2.1 x.2.2.1 w)
theorem K_fy(K:Nat)(R:Rg)(h:subRB [(236,246)] R=true):(K_ao K).Ok prog R (cd (bodyOf f7) [1,1,1,1,1,1,1,1,1,1,1,1,1,1,1,1,1,1,0,0]):=K_2 (K_ix K) (K_1 h)
theorem K_hy(K:Nat)(n:Nat):StmtOk prog [(7,.sl),(16,.sl),(28,.sl),(30,.int .i64)] [] [(6,.bool)] [(6,7),(30,31),(246,271)] ((fun n x w=>K_12 K n x.1 x.2.1 x.2.2.1 x.2.2.2.1 w) n) (.block 10 (.loop (cd (bodyOf f7) [1,1,1,1,1,1,1,1,1,1,1,1,1,1,1,1,1,1,1,0,1,0,0]))):=
  K_6o (O:=tabL []) (root:=(bodyOf f7)) (π:=[1,1,1,1,1,1,1,1,1,1,1,1,1,1,1,1,1,1,1,0,1,0,0]) (Li:=[(7,.sl),(16,.sl),(28,.sl),(30,.int .i64)]) (Lo:=[]) (Lr:=[(6,.bool)]) (S:=(fun n x w=>K_12 K n x.1 x.2.1 x.2.2.1 x.2.2.2.1 w)) (K_c K) (K_b K) rfl (Orc.nil _ _ _) (by kernel_rfl) (fun _ _=>by kernel_rfl) (fun _ _ _=>by kernel_rfl) n
noncomputable def K_a9 (K:Nat):SE:=stmt [(7,.sl),(16,.sl),(28,.sl),(30,.int .i64)] [] [(6,.bool)] [(6,7),(30,31),(246,271)] (fun x w=>K_12 K K x.1 x.2.1 x.2.2.1 x.2.2.2.1 w)
theorem K_fj(K:Nat)(R:Rg)(h:subRB [(6,7),(30,31),(246,271)] R=true):(K_a9 K).Ok prog R (.block 10 (.loop (cd (bodyOf f7) [1,1,1,1,1,1,1,1,1,1,1,1,1,1,1,1,1,1,1,0,1,0,0]))):=K_56 (K_hy K K) (K_1 h)
theorem K_jr:FunFacts prog 7 f7 (bodyOf f7) [(0,.agg),(1,.sl),(2,.int .i64)] [(0,271)]:=⟨func7,by kernel_rfl,by kernel_rfl,by kernel_rfl,by kernel_rfl,by kernel_rfl⟩
theorem K_jy(K:Nat)(x:TT [(0,.agg),(1,.sl),(2,.int .i64)])(w:World)(y:TR [.bool])(w2:World)(h:K_88 K x.1 x.2.1 x.2.2.1 w=some (y,w2)):Calls prog 7 (encA [(0,.agg),(1,.sl),(2,.int .i64)] x).toArray w (fun e w3=>e= .returned (resV (encR [.bool] y))∧w3=w2):=
  K_h (O:=tabL [([1,1,0,0],K_b5 K),([1,1,1,1,1,0,1],K_bm K),([1,1,1,1,1,0,1,0,0,0,0],K_7f K),([1,1,1,1,1,1,1,1,0,0],K_bj K),([1,1,1,1,1,1,1,1,1,1,0,0],K_b6 K),([1,1,1,1,1,1,1,1,1,1,1,1,1,1,0,1],K_bg K),([1,1,1,1,1,1,1,1,1,1,1,1,1,1,0,1,0,0,1,0,0,1,1,0,0],K_7i K),([1,1,1,1,1,1,1,1,1,1,1,1,1,1,1,1,0,1],K_be K),([1,1,1,1,1,1,1,1,1,1,1,1,1,1,1,1,0,1,0,0,1,0,0,1,0,1],K_7g K),([1,1,1,1,1,1,1,1,1,1,1,1,1,1,1,1,0,1,0,0,1,0,0,1,1,1,1],K_7h K),([1,1,1,1,1,1,1,1,1,1,1,1,1,1,1,1,1,1,0,0],K_ao K),([1,1,1,1,1,1,1,1,1,1,1,1,1,1,1,1,1,1,1,0,1],K_a9 K)]) (Lp:=[(0,.agg),(1,.sl),(2,.int .i64)]) (Rt:=[.bool]) (S:=(fun x w=>K_88 K x.1 x.2.1 x.2.2.1 w)) (K_c K) (K_b K) rfl K_jr (Orc.cons (by kernel_rfl) (K_g7 K [(0,271)] (by kernel_rfl)) (Orc.cons (by kernel_rfl) (K_g5 K [(0,271)] (by kernel_rfl)) (Orc.cons (by kernel_rfl) (K_9i K [(0,271)] (by kernel_rfl)) (Orc.cons (by kernel_rfl) (K_gd K [(0,271)] (by kernel_rfl)) (Orc.cons (by kernel_rfl) (K_gf K [(0,271)] (by kernel_rfl)) (Orc.cons (by kernel_rfl) (K_g8 K [(0,271)] (by kernel_rfl)) (Orc.cons (by kernel_rfl) (K_9l K [(0,271)] (by kernel_rfl)) (Orc.cons (by kernel_rfl) (K_gg K [(0,271)] (by kernel_rfl)) (Orc.cons (by kernel_rfl) (K_9m K [(0,271)] (by kernel_rfl)) (Orc.cons (by kernel_rfl) (K_9k K [(0,271)] (by kernel_rfl)) (Orc.cons (by kernel_rfl) (K_fy K [(0,271)] (by kernel_rfl)) (Orc.cons (by kernel_rfl) (K_fj K [(0,271)] (by kernel_rfl)) (Orc.nil _ _ _))))))))))))) (fun _ _=>by kernel_rfl) x w y w2 h
end Go.Sh

namespace Go.Sh
open Go.Fw Go.Proofs.Tryd
end Go.Sh
