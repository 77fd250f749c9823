/- Texts of this claim, put together: Sh12, Sh13, Sh14 -/
import Derived.Test.YteomkfcfhlljkaaDoorAllShdbcogp
set_option maxRecDepth 100000
set_option linter.unusedVariables false
namespace Go.Sh
open Go.Fw Go.Proofs.Tryd
noncomputable def K_x9 (K:Nat):List (Nat×CE):=[(16,K_dl K),(28,K_di K),(30,K_al K)]
theorem K_km(K:Nat):Env.Ok prog (tab (K_x9 K)):=(Env.cons (K_jj K) (Env.cons (K_j1 K) (Env.cons (K_fh K) (Env.nil _))))
noncomputable def K_xp (K:Nat):List (Nat×RE):=[(19,K_c7)]
theorem K_jv(K:Nat):REnv.Ok prog (tab (K_xp K)):=(REnv.cons (K_gq) (REnv.nil _))
noncomputable def K_8b (K:Nat) (l1:Sl) (e2:Int) (w:World):Option ((Bool×Unit)×World):=
 (K_2b e2).bind fun r_7=>
 if (r_7.1 != 0)=true then(some ((true,()),w)) else(some (((((l1.len:Nat):Int) != 3),()),w))
noncomputable def K_9m (K:Nat) (w:World):Option ((Bool×Unit)×World):=
 bnd (bldS prog 23 3 #[(0,(.int .u8 1)),(1,(.int .u8 2)),(2,(.int .u8 3))] w) fun s_1 w_2=>
 bnd (bldS prog 23 7 #[(0,(.int .u8 9)),(1,(.int .u8 8)),(2,(.int .u8 7)),(3,(.int .u8 6)),(4,(.int .u8 5)),(5,(.int .u8 4)),(6,(.int .u8 3))] w_2) fun s_3 w_4=>
 bnd (K_5q K 7 s_1 2 3 s_3 w_4) fun r_5 w_6=>
 bnd (K_8b K r_5.1 r_5.2.1 w_6) fun y_8 w_9=>
 if y_8.1=true then(some ((false,()),w_9)) else((r_5.1.a).bind fun p_10=>
 if (0:Int)≤2∧2<((r_5.1.len:Nat):Int) then((r_5.1.a).bind fun p_11=>
 if (0:Int)≤0∧0<((r_5.1.len:Nat):Int) then((ldStr (p_10.add (2*1)) w_9.drew).bind fun v_12=>
 (ldStr (p_11.add (0*1)) w_9.drew).bind fun v_13=>
 bnd (bldS prog 29 2 #[(0,(.string v_12)),(1,(.string v_13))] w_9.drew) fun s_14 w_15=>
 bnd (K_2l K s_14 w_15) fun r_16 w_17=>
 (r_5.1.a).bind fun p_18=>
 if (0:Int)≤1∧1<((r_5.1.len:Nat):Int) then((ldStr (p_18.add (1*1)) w_17).bind fun v_19=>
 bnd (bldS prog 29 1 #[(0,(.string v_19))] w_17) fun s_20 w_21=>
 bnd (K_2l K s_20 w_21) fun r_22 w_23=>
 (K_2b r_16.2.1).bind fun r_24=>
 if (r_24.1 == 0)=true then(bnd (bldS prog 23 3 #[(0,(.int .u8 1)),(1,(.int .u8 2)),(2,(.int .u8 3))] w_23) fun s_25 w_26=>
 bnd (K_36 K r_16.1 s_25 w_26) fun r_27 w_28=>
 if r_27.1=true then((K_2b r_22.2.1).bind fun r_29=>
 some (((r_29.1 == 114),()),w_28)) else(some ((false,()),w_28))) else(some ((false,()),w_23))) else none) else none) else none)
theorem K_rw(K:Nat):StmtNOk prog [(1,.sl),(2,.int .i64)] [(20,.bool)] [(13,21)] (fun x w=>K_8b K x.1 x.2.1 w) (cd (bodyOf f33) [1,1,0,0]):=
  K_x (O:=tabL []) (root:=(bodyOf f33)) (π:=[1,1,0,0]) (K_km K) (K_jv K) rfl (Orc.nil _ _ _) (by kernel_rfl) (fun _ _=>by kernel_rfl)
noncomputable def K_h9 (K:Nat):SE:=stmtN [(1,.sl),(2,.int .i64)] [(20,.bool)] [(13,21)] (fun x w=>K_8b K x.1 x.2.1 w)
theorem K_mq(K:Nat)(R:Rg)(h:subRB [(13,21)] R=true):(K_h9 K).Ok prog R (cd (bodyOf f33) [1,1,0,0]):=K_2 (K_rw K) (K_1 h)
theorem K_gj:FunFacts prog 33 f33 (bodyOf f33) [] [(0,53)]:=⟨func33,by kernel_rfl,by kernel_rfl,by kernel_rfl,by kernel_rfl,by kernel_rfl⟩
theorem K_r1(K:Nat)(x:TT [])(w:World)(y:TR [.bool])(w2:World)(h:K_9m K w=some (y,w2)):Calls prog 33 (encA [] x).toArray w (fun e w3=>e= .returned (resV (encR [.bool] y))∧w3=w2):=
  K_f (O:=tabL [([1,1,0,0],K_h9 K)]) (Lp:=[]) (Rt:=[.bool]) (S:=(fun x w=>K_9m K w)) (K_km K) (K_jv K) rfl K_gj (Orc.cons (by kernel_rfl) (K_mq K [(0,53)] (by kernel_rfl)) (Orc.nil _ _ _)) (fun _ _=>by kernel_rfl) x w y w2 h
noncomputable def K_mc (K:Nat):CE:=funE [] [.bool] (fun x w=>K_9m K w)
theorem K_vd(K:Nat):(K_mc K).Ok prog 33:=K_b K_gj fun x w y w2 h=>K_r1 K x w y w2 h
noncomputable def K_vq (K:Nat):List (Nat×CE):=[]
theorem K_4u(K:Nat):Env.Ok prog (tab (K_vq K)):=(Env.nil _)
noncomputable def K_vk (K:Nat):List (Nat×RE):=[]
theorem K_4y(K:Nat):REnv.Ok prog (tab (K_vk K)):=(REnv.nil _)
noncomputable def K_7h (K:Nat) (line0:ByteArray) (i7:Int) (w:World):Option ((Bool×Unit)×World):=
 if (decide ((IntKind.i64.wrap (i7+5)) > ((line0.size:Nat):Int)))=true then(some ((true,()),w)) else(if (decide (i7 > 0))=true then(if (0:Int)≤(IntKind.i64.wrap (i7 - 1)) then((line0[(Int.toNat (IntKind.i64.wrap (i7 - 1)))]?).bind fun b_1=>
 some (((((b_1.toNat:Nat):Int) != 32),()),w)) else none) else(some ((false,()),w)))
noncomputable def K_7b (K:Nat) (vow5:ByteArray) (set10:ByteArray) (bits11:Int) (a43:Bool) (w:World):Option ((ByteArray×Int×Unit)×World):=
 if a43=true then(some ((vow5,4,()),w)) else(some ((set10,bits11,()),w))
noncomputable def K_64 (K:Nat) (rec:ByteArray→ByteArray→ByteArray→Sl→Int→Int→Int→ByteArray→Int→Int→Int→World→Option ((Int×Unit)×World)) (line0:ByteArray) (con4:ByteArray) (vow5:ByteArray) (out6:Sl) (i7:Int) (v8:Int) (k9:Int) (set10:ByteArray) (bits11:Int) (at12:Int) (j13:Int) (w:World):Option ((Int×Unit)×World):=
 if (decide (j13<bits11))=true then(if (0:Int)≤j13 then((set10[(Int.toNat j13)]?).bind fun b_6=>
 if (0:Int)≤(IntKind.i64.wrap (i7+k9)) then((line0[(Int.toNat (IntKind.i64.wrap (i7+k9)))]?).bind fun b_7=>
 if (((b_6.toNat:Nat):Int) == ((b_7.toNat:Nat):Int))=true then(rec line0 con4 vow5 out6 i7 v8 k9 set10 bits11 j13 (IntKind.i64.wrap (j13+1)) w.drew) else(rec line0 con4 vow5 out6 i7 v8 k9 set10 bits11 at12 (IntKind.i64.wrap (j13+1)) w.drew)) else none) else none) else(some ((at12,()),w))
noncomputable def K_2w (K:Nat) (n:Nat):ByteArray→ByteArray→ByteArray→Sl→Int→Int→Int→ByteArray→Int→Int→Int→World→Option ((Int×Unit)×World):=iter (fun _ _ _ _ _ _ _ _ _ _ _ _=>none) (K_64 K) n
noncomputable def K_5s (K:Nat) (rec:ByteArray→ByteArray→ByteArray→Sl→Int→Int→Int→World→Option ((Out (Int×Unit) (Sl×Bool×Unit))×World)) (line0:ByteArray) (con4:ByteArray) (vow5:ByteArray) (out6:Sl) (i7:Int) (v8:Int) (k9:Int) (w:World):Option ((Out (Int×Unit) (Sl×Bool×Unit))×World):=
 if (decide (k9<5))=true then(bnd (K_7b K vow5 con4 16 ((Int.tmod k9 2) == 1) w) fun y_4 w_5=>
 bnd (K_2w K K line0 con4 vow5 out6 i7 v8 k9 y_4.1 y_4.2.1 (-1) 0 w_5) fun y_8 w_9=>
 if (decide (y_8.1<0))=true then(some (.ret (⟨none,0,0⟩,false,()),w_9)) else(rec line0 con4 vow5 out6 i7 (IntKind.i64.wrap ((IntKind.i64.wrap (v8*y_4.2.1))+y_8.1)) (IntKind.i64.wrap (k9+1)) w_9)) else(some (.norm (v8,()),w))
noncomputable def K_3a (K:Nat) (n:Nat):ByteArray→ByteArray→ByteArray→Sl→Int→Int→Int→World→Option ((Out (Int×Unit) (Sl×Bool×Unit))×World):=iter (fun _ _ _ _ _ _ _ _=>none) (K_5s K) n
noncomputable def K_65 (K:Nat) (rec:ByteArray→ByteArray→ByteArray→Sl→Int→World→Option ((Out (Sl×Unit) (Sl×Bool×Unit))×World)) (line0:ByteArray) (con4:ByteArray) (vow5:ByteArray) (out6:Sl) (i7:Int) (w:World):Option ((Out (Sl×Unit) (Sl×Bool×Unit))×World):=
 if (decide (i7<((line0.size:Nat):Int)))=true then(bnd (K_7h K line0 i7 w) fun y_2 w_3=>
 if y_2.1=true then(some (.ret (⟨none,0,0⟩,false,()),w_3)) else(bnd (K_3a K K line0 con4 vow5 out6 i7 0 0 w_3) fun y_10 w_11=>
 (match y_10 with
 | .norm z_12n=>(bnd (bldS prog 23 2 #[(0,(.int .u8 (IntKind.u8.wrap (IntKind.i64.wrap (Int.tdiv z_12n.1 256))))),(1,(.int .u8 (IntKind.u8.wrap (Int.tmod z_12n.1 256))))] w_11) fun s_13 w_14=>
 bnd (apd prog 23 23 (.slice out6.a out6.len out6.cap) (.slice s_13.a s_13.len s_13.cap) w_14) fun s_15 w_16=>
 rec line0 con4 vow5 s_15 (IntKind.i64.wrap (i7+6)) w_16)
 | .ret z_12r=>(some (.ret (z_12r.1,z_12r.2.1,()),w_11))))) else(some (.norm (out6,()),w))
noncomputable def K_33 (K:Nat) (n:Nat):ByteArray→ByteArray→ByteArray→Sl→Int→World→Option ((Out (Sl×Unit) (Sl×Bool×Unit))×World):=iter (fun _ _ _ _ _ _=>none) (K_65 K) n
noncomputable def K_8i (K:Nat) (line0:ByteArray) (w:World):Option ((Sl×Bool×Unit)×World):=
 bnd (K_33 K K line0 str1 str2 ⟨none,0,0⟩ 0 w) fun y_17 w_18=>
 (match y_17 with
 | .norm z_19n=>(some ((z_19n.1,((Int.tmod ((line0.size:Nat):Int) 6) == 5),()),w_18))
 | .ret z_19r=>(some ((z_19r.1,z_19r.2.1,()),w_18)))
theorem K_pr(K:Nat):StmtNOk prog [(0,.str),(7,.int .i64)] [(35,.bool)] [(20,36)] (fun x w=>K_7h K x.1 x.2.1 w) (cd (bodyOf f35) [1,1,1,1,0,1,0,0,1,0,0,0,0]):=
  K_x (O:=tabL []) (root:=(bodyOf f35)) (π:=[1,1,1,1,0,1,0,0,1,0,0,0,0]) (K_4u K) (K_4y K) rfl (Orc.nil _ _ _) (by kernel_rfl) (fun _ _=>by kernel_rfl)
noncomputable def K_a7 (K:Nat):SE:=stmtN [(0,.str),(7,.int .i64)] [(35,.bool)] [(20,36)] (fun x w=>K_7h K x.1 x.2.1 w)
theorem K_ct(K:Nat)(R:Rg)(h:subRB [(20,36)] R=true):(K_a7 K).Ok prog R (cd (bodyOf f35) [1,1,1,1,0,1,0,0,1,0,0,0,0]):=K_2 (K_pr K) (K_1 h)
theorem K_po(K:Nat):StmtNOk prog [(5,.str),(10,.str),(11,.int .i64),(43,.bool)] [(10,.str),(11,.int .i64)] [(10,12),(44,45)] (fun x w=>K_7b K x.1 x.2.1 x.2.2.1 x.2.2.2.1 w) (cd (bodyOf f35) [1,1,1,1,0,1,0,0,1,0,0,1,1,0,1,0,0,1,0,0,1,1,0,1]):=
  K_x (O:=tabL []) (root:=(bodyOf f35)) (π:=[1,1,1,1,0,1,0,0,1,0,0,1,1,0,1,0,0,1,0,0,1,1,0,1]) (K_4u K) (K_4y K) rfl (Orc.nil _ _ _) (by kernel_rfl) (fun _ _=>by kernel_rfl)
noncomputable def K_70 (K:Nat):SE:=stmtN [(5,.str),(10,.str),(11,.int .i64),(43,.bool)] [(10,.str),(11,.int .i64)] [(10,12),(44,45)] (fun x w=>K_7b K x.1 x.2.1 x.2.2.1 x.2.2.2.1 w)
theorem K_85(K:Nat)(R:Rg)(h:subRB [(10,12),(44,45)] R=true):(K_70 K).Ok prog R (cd (bodyOf f35) [1,1,1,1,0,1,0,0,1,0,0,1,1,0,1,0,0,1,0,0,1,1,0,1]):=K_2 (K_po K) (K_1 h)
theorem K_qb(K:Nat)(n:Nat):StmtNOk prog [(0,.str),(4,.str),(5,.str),(6,.sl),(7,.int .i64),(8,.int .i64),(9,.int .i64),(10,.str),(11,.int .i64),(12,.int .i64),(13,.int .i64)] [(12,.int .i64)] [(12,14),(45,60)] ((fun n x w=>K_2w K n x.1 x.2.1 x.2.2.1 x.2.2.2.1 x.2.2.2.2.1 x.2.2.2.2.2.1 x.2.2.2.2.2.2.1 x.2.2.2.2.2.2.2.1 x.2.2.2.2.2.2.2.2.1 x.2.2.2.2.2.2.2.2.2.1 x.2.2.2.2.2.2.2.2.2.2.1 w) n) (.block 4 (.loop (cd (bodyOf f35) [1,1,1,1,0,1,0,0,1,0,0,1,1,0,1,0,0,1,0,0,1,1,1,1,0,1,0,0]))):=
  K_a (O:=tabL []) (root:=(bodyOf f35)) (π:=[1,1,1,1,0,1,0,0,1,0,0,1,1,0,1,0,0,1,0,0,1,1,1,1,0,1,0,0]) (Li:=[(0,.str),(4,.str),(5,.str),(6,.sl),(7,.int .i64),(8,.int .i64),(9,.int .i64),(10,.str),(11,.int .i64),(12,.int .i64),(13,.int .i64)]) (Lo:=[(12,.int .i64)]) (S:=(fun n x w=>K_2w K n x.1 x.2.1 x.2.2.1 x.2.2.2.1 x.2.2.2.2.1 x.2.2.2.2.2.1 x.2.2.2.2.2.2.1 x.2.2.2.2.2.2.2.1 x.2.2.2.2.2.2.2.2.1 x.2.2.2.2.2.2.2.2.2.1 x.2.2.2.2.2.2.2.2.2.2.1 w)) (K_4u K) (K_4y K) rfl (Orc.nil _ _ _) (by kernel_rfl) (fun _ _=>by kernel_rfl) (fun _ _ _=>by kernel_rfl) n
noncomputable def K_73 (K:Nat):SE:=stmtN [(0,.str),(4,.str),(5,.str),(6,.sl),(7,.int .i64),(8,.int .i64),(9,.int .i64),(10,.str),(11,.int .i64),(12,.int .i64),(13,.int .i64)] [(12,.int .i64)] [(12,14),(45,60)] (fun x w=>K_2w K K x.1 x.2.1 x.2.2.1 x.2.2.2.1 x.2.2.2.2.1 x.2.2.2.2.2.1 x.2.2.2.2.2.2.1 x.2.2.2.2.2.2.2.1 x.2.2.2.2.2.2.2.2.1 x.2.2.2.2.2.2.2.2.2.1 x.2.2.2.2.2.2.2.2.2.2.1 w)
theorem K_80(K:Nat)(R:Rg)(h:subRB [(12,14),(45,60)] R=true):(K_73 K).Ok prog R (.block 4 (.loop (cd (bodyOf f35) [1,1,1,1,0,1,0,0,1,0,0,1,1,0,1,0,0,1,0,0,1,1,1,1,0,1,0,0]))):=K_2 (K_qb K K) (K_1 h)
theorem K_pf(K:Nat)(n:Nat):StmtOk prog [(0,.str),(4,.str),(5,.str),(6,.sl),(7,.int .i64),(8,.int .i64),(9,.int .i64)] [(8,.int .i64)] [(2,.sl),(3,.bool)] [(2,4),(8,14),(36,67)] ((fun n x w=>K_3a K n x.1 x.2.1 x.2.2.1 x.2.2.2.1 x.2.2.2.2.1 x.2.2.2.2.2.1 x.2.2.2.2.2.2.1 w) n) (.block 2 (.loop (cd (bodyOf f35) [1,1,1,1,0,1,0,0,1,0,0,1,1,0,1,0,0]))):=
  K_6i (O:=tabL [([1,1,1,1,0,1,0,0,1,0,0,1,1,0,1,0,0,1,0,0,1,1,0,1],K_70 K),([1,1,1,1,0,1,0,0,1,0,0,1,1,0,1,0,0,1,0,0,1,1,1,1,0,1],K_73 K)]) (root:=(bodyOf f35)) (π:=[1,1,1,1,0,1,0,0,1,0,0,1,1,0,1,0,0]) (Li:=[(0,.str),(4,.str),(5,.str),(6,.sl),(7,.int .i64),(8,.int .i64),(9,.int .i64)]) (Lo:=[(8,.int .i64)]) (Lr:=[(2,.sl),(3,.bool)]) (S:=(fun n x w=>K_3a K n x.1 x.2.1 x.2.2.1 x.2.2.2.1 x.2.2.2.2.1 x.2.2.2.2.2.1 x.2.2.2.2.2.2.1 w)) (K_4u K) (K_4y K) rfl (Orc.cons (by kernel_rfl) (K_85 K [(2,4),(8,14),(36,67)] (by kernel_rfl)) (Orc.cons (by kernel_rfl) (K_80 K [(2,4),(8,14),(36,67)] (by kernel_rfl)) (Orc.nil _ _ _))) (by kernel_rfl) (fun _ _=>by kernel_rfl) (fun _ _ _=>by kernel_rfl) n
noncomputable def K_aj (K:Nat):SE:=stmt [(0,.str),(4,.str),(5,.str),(6,.sl),(7,.int .i64),(8,.int .i64),(9,.int .i64)] [(8,.int .i64)] [(2,.sl),(3,.bool)] [(2,4),(8,14),(36,67)] (fun x w=>K_3a K K x.1 x.2.1 x.2.2.1 x.2.2.2.1 x.2.2.2.2.1 x.2.2.2.2.2.1 x.2.2.2.2.2.2.1 w)
theorem K_c2(K:Nat)(R:Rg)(h:subRB [(2,4),(8,14),(36,67)] R=true):(K_aj K).Ok prog R (.block 2 (.loop (cd (bodyOf f35) [1,1,1,1,0,1,0,0,1,0,0,1,1,0,1,0,0]))):=K_4w (K_pf K K) (K_1 h)
theorem K_q6(K:Nat)(n:Nat):StmtOk prog [(0,.str),(4,.str),(5,.str),(6,.sl),(7,.int .i64)] [(6,.sl)] [(2,.sl),(3,.bool)] [(2,4),(6,76)] ((fun n x w=>K_33 K n x.1 x.2.1 x.2.2.1 x.2.2.2.1 x.2.2.2.2.1 w) n) (.block 0 (.loop (cd (bodyOf f35) [1,1,1,1,0,1,0,0]))):=
  K_6i (O:=tabL [([1,1,1,1,0,1,0,0,1,0,0,0,0],K_a7 K),([1,1,1,1,0,1,0,0,1,0,0,1,1,0,1],K_aj K),([1,1,1,1,0,1,0,0,1,0,0,1,1,0,1,0,0,1,0,0,1,1,0,1],K_70 K),([1,1,1,1,0,1,0,0,1,0,0,1,1,0,1,0,0,1,0,0,1,1,1,1,0,1],K_73 K)]) (root:=(bodyOf f35)) (π:=[1,1,1,1,0,1,0,0]) (Li:=[(0,.str),(4,.str),(5,.str),(6,.sl),(7,.int .i64)]) (Lo:=[(6,.sl)]) (Lr:=[(2,.sl),(3,.bool)]) (S:=(fun n x w=>K_33 K n x.1 x.2.1 x.2.2.1 x.2.2.2.1 x.2.2.2.2.1 w)) (K_4u K) (K_4y K) rfl (Orc.cons (by kernel_rfl) (K_ct K [(2,4),(6,76)] (by kernel_rfl)) (Orc.cons (by kernel_rfl) (K_c2 K [(2,4),(6,76)] (by kernel_rfl)) (Orc.cons (by kernel_rfl) (K_85 K [(2,4),(6,76)] (by kernel_rfl)) (Orc.cons (by kernel_rfl) (K_80 K [(2,4),(6,76)] (by kernel_rfl)) (Orc.nil _ _ _))))) (by kernel_rfl) (fun _ _=>by kernel_rfl) (fun _ _ _=>by kernel_rfl) n
noncomputable def K_ew (K:Nat):SE:=stmt [(0,.str),(4,.str),(5,.str),(6,.sl),(7,.int .i64)] [(6,.sl)] [(2,.sl),(3,.bool)] [(2,4),(6,76)] (fun x w=>K_33 K K x.1 x.2.1 x.2.2.1 x.2.2.2.1 x.2.2.2.2.1 w)
theorem K_kq(K:Nat)(R:Rg)(h:subRB [(2,4),(6,76)] R=true):(K_ew K).Ok prog R (.block 0 (.loop (cd (bodyOf f35) [1,1,1,1,0,1,0,0]))):=K_4w (K_q6 K K) (K_1 h)
theorem K_f4:FunFacts prog 35 f35 (bodyOf f35) [(0,.str)] [(0,81)]:=⟨func35,by kernel_rfl,by kernel_rfl,by kernel_rfl,by kernel_rfl,by kernel_rfl⟩
theorem K_pi(K:Nat)(x:TT [(0,.str)])(w:World)(y:TR [.sl,.bool])(w2:World)(h:K_8i K x.1 w=some (y,w2)):Calls prog 35 (encA [(0,.str)] x).toArray w (fun e w3=>e= .returned (resV (encR [.sl,.bool] y))∧w3=w2):=
  K_f (O:=tabL [([1,1,1,1,0,1],K_ew K),([1,1,1,1,0,1,0,0,1,0,0,0,0],K_a7 K),([1,1,1,1,0,1,0,0,1,0,0,1,1,0,1],K_aj K),([1,1,1,1,0,1,0,0,1,0,0,1,1,0,1,0,0,1,0,0,1,1,0,1],K_70 K),([1,1,1,1,0,1,0,0,1,0,0,1,1,0,1,0,0,1,0,0,1,1,1,1,0,1],K_73 K)]) (Lp:=[(0,.str)]) (Rt:=[.sl,.bool]) (S:=(fun x w=>K_8i K x.1 w)) (K_4u K) (K_4y K) rfl K_f4 (Orc.cons (by kernel_rfl) (K_kq K [(0,81)] (by kernel_rfl)) (Orc.cons (by kernel_rfl) (K_ct K [(0,81)] (by kernel_rfl)) (Orc.cons (by kernel_rfl) (K_c2 K [(0,81)] (by kernel_rfl)) (Orc.cons (by kernel_rfl) (K_85 K [(0,81)] (by kernel_rfl)) (Orc.cons (by kernel_rfl) (K_80 K [(0,81)] (by kernel_rfl)) (Orc.nil _ _ _)))))) (fun _ _=>by kernel_rfl) x w y w2 h
noncomputable def K_jf (K:Nat):CE:=funE [(0,.str)] [.sl,.bool] (fun x w=>K_8i K x.1 w)
theorem K_u3(K:Nat):(K_jf K).Ok prog 35:=K_b K_f4 fun x w y w2 h=>K_pi K x w y w2 h
noncomputable def K_wq (K:Nat):List (Nat×CE):=[(35,K_jf K),(59,K_c9 K)]
theorem K_kd(K:Nat):Env.Ok prog (tab (K_wq K)):=(Env.cons (K_u3 K) (Env.cons (K_i0 K) (Env.nil _)))
noncomputable def K_vt (K:Nat):List (Nat×RE):=[]
theorem K_ka(K:Nat):REnv.Ok prog (tab (K_vt K)):=(REnv.nil _)
noncomputable def K_8c (K:Nat) (b12:Sl) (ok13:Bool) (w:World):Option ((Bool×Unit)×World):=
 if (!ok13)=true then(some ((true,()),w)) else(some (((((b12.len:Nat):Int) == 0),()),w))
noncomputable def K_9o (K:Nat) (line0:ByteArray) (i1:Int) (by2:Int) (k3:Int) (too4:Int) (w:World):Option ((ByteArray×Bool×Unit)×World):=
 bnd (K_8i K line0 w) fun r_1 w_2=>
 bnd (K_8c K r_1.1 r_1.2.1 w_2) fun y_3 w_4=>
 if y_3.1=true then(some ((str0,false,()),w_4)) else(if (IntKind.u64.wrap ((r_1.1.len:Nat):Int))≠0 then((r_1.1.a).bind fun p_5=>
 if (0:Int)≤(IntKind.i64.wrap (Int.tmod (IntKind.u64.wrap i1) (IntKind.u64.wrap ((r_1.1.len:Nat):Int))))∧(IntKind.i64.wrap (Int.tmod (IntKind.u64.wrap i1) (IntKind.u64.wrap ((r_1.1.len:Nat):Int))))<((r_1.1.len:Nat):Int) then((ldI .u8 (p_5.add ((Int.toNat (IntKind.i64.wrap (Int.tmod (IntKind.u64.wrap i1) (IntKind.u64.wrap ((r_1.1.len:Nat):Int)))))*1)) w_4).bind fun v_6=>
 (r_1.1.a).bind fun p_7=>
 if (0:Int)≤(IntKind.i64.wrap (Int.tmod (IntKind.u64.wrap i1) (IntKind.u64.wrap ((r_1.1.len:Nat):Int))))∧(IntKind.i64.wrap (Int.tmod (IntKind.u64.wrap i1) (IntKind.u64.wrap ((r_1.1.len:Nat):Int))))<((r_1.1.len:Nat):Int) then((stC (p_7.add ((Int.toNat (IntKind.i64.wrap (Int.tmod (IntKind.u64.wrap i1) (IntKind.u64.wrap ((r_1.1.len:Nat):Int)))))*1)) (.int .u8 (bits .xor .u8 v_6 by2)) w_4).bind fun w_8=>
 if (IntKind.u64.wrap ((r_1.1.len:Nat):Int))≠0 then((r_1.1.a).bind fun p_9=>
 if (0:Int)≤(IntKind.i64.wrap (Int.tmod (IntKind.u64.wrap k3) (IntKind.u64.wrap ((r_1.1.len:Nat):Int))))∧(IntKind.i64.wrap (Int.tmod (IntKind.u64.wrap k3) (IntKind.u64.wrap ((r_1.1.len:Nat):Int))))<((r_1.1.len:Nat):Int) then((ldI .u8 (p_9.add ((Int.toNat (IntKind.i64.wrap (Int.tmod (IntKind.u64.wrap k3) (IntKind.u64.wrap ((r_1.1.len:Nat):Int)))))*1)) w_8).bind fun v_10=>
 (r_1.1.a).bind fun p_11=>
 if (0:Int)≤(IntKind.i64.wrap (Int.tmod (IntKind.u64.wrap k3) (IntKind.u64.wrap ((r_1.1.len:Nat):Int))))∧(IntKind.i64.wrap (Int.tmod (IntKind.u64.wrap k3) (IntKind.u64.wrap ((r_1.1.len:Nat):Int))))<((r_1.1.len:Nat):Int) then((stC (p_11.add ((Int.toNat (IntKind.i64.wrap (Int.tmod (IntKind.u64.wrap k3) (IntKind.u64.wrap ((r_1.1.len:Nat):Int)))))*1)) (.int .u8 (bits .xor .u8 v_10 too4)) w_8).bind fun w_12=>
 bnd (K_6e K r_1.1 w_12) fun r_13 w_14=>
 some ((r_13.1,true,()),w_14)) else none) else none) else none) else none) else none) else none)
theorem K_re(K:Nat):StmtNOk prog [(12,.sl),(13,.bool)] [(26,.bool)] [(20,27)] (fun x w=>K_8c K x.1 x.2.1 w) (cd (bodyOf f34) [1,1,0,0]):=
  K_x (O:=tabL []) (root:=(bodyOf f34)) (π:=[1,1,0,0]) (K_kd K) (K_ka K) rfl (Orc.nil _ _ _) (by kernel_rfl) (fun _ _=>by kernel_rfl)
noncomputable def K_g9 (K:Nat):SE:=stmtN [(12,.sl),(13,.bool)] [(26,.bool)] [(20,27)] (fun x w=>K_8c K x.1 x.2.1 w)
theorem K_nm(K:Nat)(R:Rg)(h:subRB [(20,27)] R=true):(K_g9 K).Ok prog R (cd (bodyOf f34) [1,1,0,0]):=K_2 (K_re K) (K_1 h)
theorem K_gg:FunFacts prog 34 f34 (bodyOf f34) [(0,.str),(1,.int .i64),(2,.int .u8),(3,.int .i64),(4,.int .u8)] [(0,61)]:=⟨func34,by kernel_rfl,by kernel_rfl,by kernel_rfl,by kernel_rfl,by kernel_rfl⟩
theorem K_r2(K:Nat)(x:TT [(0,.str),(1,.int .i64),(2,.int .u8),(3,.int .i64),(4,.int .u8)])(w:World)(y:TR [.str,.bool])(w2:World)(h:K_9o K x.1 x.2.1 x.2.2.1 x.2.2.2.1 x.2.2.2.2.1 w=some (y,w2)):Calls prog 34 (encA [(0,.str),(1,.int .i64),(2,.int .u8),(3,.int .i64),(4,.int .u8)] x).toArray w (fun e w3=>e= .returned (resV (encR [.str,.bool] y))∧w3=w2):=
  K_f (O:=tabL [([1,1,0,0],K_g9 K)]) (Lp:=[(0,.str),(1,.int .i64),(2,.int .u8),(3,.int .i64),(4,.int .u8)]) (Rt:=[.str,.bool]) (S:=(fun x w=>K_9o K x.1 x.2.1 x.2.2.1 x.2.2.2.1 x.2.2.2.2.1 w)) (K_kd K) (K_ka K) rfl K_gg (Orc.cons (by kernel_rfl) (K_nm K [(0,61)] (by kernel_rfl)) (Orc.nil _ _ _)) (fun _ _=>by kernel_rfl) x w y w2 h
noncomputable def K_mb (K:Nat):CE:=funE [(0,.str),(1,.int .i64),(2,.int .u8),(3,.int .i64),(4,.int .u8)] [.str,.bool] (fun x w=>K_9o K x.1 x.2.1 x.2.2.1 x.2.2.2.1 x.2.2.2.2.1 w)
theorem K_vm(K:Nat):(K_mb K).Ok prog 34:=K_b K_gg fun x w y w2 h=>K_r2 K x w y w2 h
noncomputable def K_pq (K:Nat):List (Nat×CE):=[(32,K_d7 K),(33,K_mc K),(34,K_mb K),(28,K_di K),(30,K_al K)]
theorem K_44(K:Nat):Env.Ok prog (tab (K_pq K)):=(Env.cons (K_ni K) (Env.cons (K_vd K) (Env.cons (K_vm K) (Env.cons (K_j1 K) (Env.cons (K_fh K) (Env.nil _))))))
noncomputable def K_pm (K:Nat):List (Nat×RE):=[(19,K_c7)]
theorem K_3x(K:Nat):REnv.Ok prog (tab (K_pm K)):=(REnv.cons (K_gq) (REnv.nil _))
noncomputable def K_4p (K:Nat) (ok6:Bool) (w:World):Option ((Bool×Unit)×World):=
 bnd (K_9m K w) fun r_7 w_8=>
 if (!r_7.1)=true then(some ((true,()),w_8)) else(some (((!ok6),()),w_8))
noncomputable def K_1z (K:Nat) (picks1:Sl) (i9:Int) (w:World):Option ((Bool×Unit)×World):=
 if (decide (i9<((picks1.len:Nat):Int)))=true then(some (((decide (i9<40)),()),w)) else(some ((false,()),w))
noncomputable def K_3j (K:Nat) (rec:Sl→Addr→Sl→Sl→Value→Int→World→Option ((Out (Sl×Unit) (Bool×Unit))×World)) (picks1:Sl) (d2:Addr) (l5:Sl) (mine7:Sl) (have8:Value) (i9:Int) (w:World):Option ((Out (Sl×Unit) (Bool×Unit))×World):=
 bnd (K_1z K picks1 i9 w) fun y_13 w_14=>
 if y_13.1=true then((picks1.a).bind fun p_15=>
 if (0:Int)≤i9∧i9<((picks1.len:Nat):Int) then((ldA 5 (p_15.add ((Int.toNat i9)*5)) w_14).bind fun v_16=>
 bnd (newB z59 59 w_14) fun p_17 w_18=>
 if (v_16).size=5 then((stA p_17 v_16 w_18).bind fun w_19=>
 (ldI .i64 (p_17.add 0) w_19).bind fun v_20=>
 if (IntKind.u64.wrap ((l5.len:Nat):Int))≠0 then((l5.a).bind fun p_21=>
 if (0:Int)≤(IntKind.i64.wrap (Int.tmod (IntKind.u64.wrap v_20) (IntKind.u64.wrap ((l5.len:Nat):Int))))∧(IntKind.i64.wrap (Int.tmod (IntKind.u64.wrap v_20) (IntKind.u64.wrap ((l5.len:Nat):Int))))<((l5.len:Nat):Int) then((ldStr (p_21.add ((Int.toNat (IntKind.i64.wrap (Int.tmod (IntKind.u64.wrap v_20) (IntKind.u64.wrap ((l5.len:Nat):Int)))))*1)) w_19.drew).bind fun v_22=>
 (ldI .i64 (p_17.add 1) w_19.drew).bind fun v_23=>
 (ldI .u8 (p_17.add 3) w_19.drew).bind fun v_24=>
 (ldI .i64 (p_17.add 2) w_19.drew).bind fun v_25=>
 (ldI .u8 (p_17.add 4) w_19.drew).bind fun v_26=>
 bnd (K_9o K v_22 v_23 v_24 v_25 v_26 w_19.drew) fun r_27 w_28=>
 if (!r_27.2.1)=true then(some (.ret (false,()),w_28)) else(bnd (mput prog 57 have8 (.int .i64 (IntKind.i64.wrap (Int.tmod (IntKind.u64.wrap v_20) (IntKind.u64.wrap ((l5.len:Nat):Int))))) (.int .i64 1) w_28) fun _ w_29=>
 bnd (bldS prog 29 1 #[(0,(.string r_27.1))] w_29) fun s_30 w_31=>
 bnd (apd prog 29 29 (.slice mine7.a mine7.len mine7.cap) (.slice s_30.a s_30.len s_30.cap) w_31) fun s_32 w_33=>
 rec picks1 d2 l5 s_32 have8 (IntKind.i64.wrap (i9+1)) w_33)) else none) else none) else none) else none) else(some (.norm (mine7,()),w_14))
noncomputable def K_1h (K:Nat) (n:Nat):Sl→Addr→Sl→Sl→Value→Int→World→Option ((Out (Sl×Unit) (Bool×Unit))×World):=iter (fun _ _ _ _ _ _ _=>none) (K_3j K) n
noncomputable def K_6v (K:Nat) (b14:Sl) (e15:Int) (w:World):Option ((Bool×Unit)×World):=
 (K_2b e15).bind fun r_42=>
 if (r_42.1 == 114)=true then(some (((((b14.len:Nat):Int) == 0),()),w)) else(some ((false,()),w))
noncomputable def K_8q (K:Nat) (d0:Array Value) (picks1:Sl) (w:World):Option ((Bool×Unit)×World):=
 bnd (newB d0 25 w) fun p_1 w_2=>
 (ldA 6 p_1 w_2).bind fun v_3=>
 bnd (K_49 K v_3 w_2) fun r_4 w_5=>
 if (r_4.1).size=6 then((stA p_1 r_4.1 w_5).bind fun w_6=>
 bnd (K_4p K r_4.2.2.1 w_6) fun y_9 w_10=>
 if y_9.1=true then(some ((false,()),w_10)) else(bnd (mmk prog 57 none w_10) fun m_11 w_12=>
 bnd (K_1h K K picks1 p_1 r_4.2.1 ⟨none,0,0⟩ m_11 0 w_12) fun y_34 w_35=>
 (match y_34 with
 | .norm z_36n=>(bnd (K_2l K z_36n.1 w_35) fun r_37 w_38=>
 bnd (lenM prog 57 3 m_11 w_38) fun s_39 w_40=>
 (ldI .i64 (p_1.add 2) w_40).bind fun v_41=>
 if (decide (s_39<v_41))=true then(bnd (K_6v K r_37.1 r_37.2.1 w_40) fun y_43 w_44=>
 some ((y_43.1,()),w_44)) else((K_2b r_37.2.1).bind fun r_45=>
 if (r_45.1 == 0)=true then((ldS (p_1.add 1) w_40).bind fun v_46=>
 bnd (K_36 K r_37.1 v_46 w_40) fun r_47 w_48=>
 some ((r_47.1,()),w_48)) else(some ((false,()),w_40))))
 | .ret z_36r=>(some ((z_36r.1,()),w_35))))) else none
theorem K_kg(K:Nat):StmtNOk prog [(6,.bool)] [(27,.bool)] [(22,28)] (fun x w=>K_4p K x.1 w) (cd (bodyOf f5) [1,1,0,0]):=
  K_x (O:=tabL []) (root:=(bodyOf f5)) (π:=[1,1,0,0]) (K_44 K) (K_3x K) rfl (Orc.nil _ _ _) (by kernel_rfl) (fun _ _=>by kernel_rfl)
noncomputable def K_bx (K:Nat):SE:=stmtN [(6,.bool)] [(27,.bool)] [(22,28)] (fun x w=>K_4p K x.1 w)
theorem K_h7(K:Nat)(R:Rg)(h:subRB [(22,28)] R=true):(K_bx K).Ok prog R (cd (bodyOf f5) [1,1,0,0]):=K_2 (K_kg K) (K_1 h)
theorem K_j5(K:Nat):StmtNOk prog [(1,.sl),(9,.int .i64)] [(36,.bool)] [(29,37)] (fun x w=>K_1z K x.1 x.2.1 w) (cd (bodyOf f5) [1,1,1,1,1,0,1,0,0,0,0]):=
  K_x (O:=tabL []) (root:=(bodyOf f5)) (π:=[1,1,1,1,1,0,1,0,0,0,0]) (K_44 K) (K_3x K) rfl (Orc.nil _ _ _) (by kernel_rfl) (fun _ _=>by kernel_rfl)
noncomputable def K_75 (K:Nat):SE:=stmtN [(1,.sl),(9,.int .i64)] [(36,.bool)] [(29,37)] (fun x w=>K_1z K x.1 x.2.1 w)
theorem K_9j(K:Nat)(R:Rg)(h:subRB [(29,37)] R=true):(K_75 K).Ok prog R (cd (bodyOf f5) [1,1,1,1,1,0,1,0,0,0,0]):=K_2 (K_j5 K) (K_1 h)
theorem K_ko(K:Nat)(n:Nat):StmtOk prog [(1,.sl),(2,.addr),(5,.sl),(7,.sl),(8,.val),(9,.int .i64)] [(7,.sl)] [(4,.bool)] [(4,5),(7,8),(9,14),(29,75)] ((fun n x w=>K_1h K n x.1 x.2.1 x.2.2.1 x.2.2.2.1 x.2.2.2.2.1 x.2.2.2.2.2.1 w) n) (.block 0 (.loop (cd (bodyOf f5) [1,1,1,1,1,0,1,0,0]))):=
  K_6i (O:=tabL [([1,1,1,1,1,0,1,0,0,0,0],K_75 K)]) (root:=(bodyOf f5)) (π:=[1,1,1,1,1,0,1,0,0]) (Li:=[(1,.sl),(2,.addr),(5,.sl),(7,.sl),(8,.val),(9,.int .i64)]) (Lo:=[(7,.sl)]) (Lr:=[(4,.bool)]) (S:=(fun n x w=>K_1h K n x.1 x.2.1 x.2.2.1 x.2.2.2.1 x.2.2.2.2.1 x.2.2.2.2.2.1 w)) (K_44 K) (K_3x K) rfl (Orc.cons (by kernel_rfl) (K_9j K [(4,5),(7,8),(9,14),(29,75)] (by kernel_rfl)) (Orc.nil _ _ _)) (by kernel_rfl) (fun _ _=>by kernel_rfl) (fun _ _ _=>by kernel_rfl) n
noncomputable def K_bo (K:Nat):SE:=stmt [(1,.sl),(2,.addr),(5,.sl),(7,.sl),(8,.val),(9,.int .i64)] [(7,.sl)] [(4,.bool)] [(4,5),(7,8),(9,14),(29,75)] (fun x w=>K_1h K K x.1 x.2.1 x.2.2.1 x.2.2.2.1 x.2.2.2.2.1 x.2.2.2.2.2.1 w)
theorem K_h2(K:Nat)(R:Rg)(h:subRB [(4,5),(7,8),(9,14),(29,75)] R=true):(K_bo K).Ok prog R (.block 0 (.loop (cd (bodyOf f5) [1,1,1,1,1,0,1,0,0]))):=K_4w (K_ko K K) (K_1 h)
theorem K_k8(K:Nat):StmtNOk prog [(14,.sl),(15,.int .i64)] [(4,.bool)] [(4,5),(85,93)] (fun x w=>K_6v K x.1 x.2.1 w) (cd (bodyOf f5) [1,1,1,1,1,1,1,0,1,0,0]):=
  K_x (O:=tabL []) (root:=(bodyOf f5)) (π:=[1,1,1,1,1,1,1,0,1,0,0]) (K_44 K) (K_3x K) rfl (Orc.nil _ _ _) (by kernel_rfl) (fun _ _=>by kernel_rfl)
noncomputable def K_bg (K:Nat):SE:=stmtN [(14,.sl),(15,.int .i64)] [(4,.bool)] [(4,5),(85,93)] (fun x w=>K_6v K x.1 x.2.1 w)
theorem K_gv(K:Nat)(R:Rg)(h:subRB [(4,5),(85,93)] R=true):(K_bg K).Ok prog R (cd (bodyOf f5) [1,1,1,1,1,1,1,0,1,0,0]):=K_2 (K_k8 K) (K_1 h)
theorem K_jk:FunFacts prog 5 f5 (bodyOf f5) [(0,.agg),(1,.sl)] [(0,102)]:=⟨func5,by kernel_rfl,by kernel_rfl,by kernel_rfl,by kernel_rfl,by kernel_rfl⟩
theorem K_jr(K:Nat)(x:TT [(0,.agg),(1,.sl)])(w:World)(y:TR [.bool])(w2:World)(h:K_8q K x.1 x.2.1 w=some (y,w2)):Calls prog 5 (encA [(0,.agg),(1,.sl)] x).toArray w (fun e w3=>e= .returned (resV (encR [.bool] y))∧w3=w2):=
  K_f (O:=tabL [([1,1,0,0],K_bx K),([1,1,1,1,1,0,1],K_bo K),([1,1,1,1,1,0,1,0,0,0,0],K_75 K),([1,1,1,1,1,1,1,0,1,0,0],K_bg K)]) (Lp:=[(0,.agg),(1,.sl)]) (Rt:=[.bool]) (S:=(fun x w=>K_8q K x.1 x.2.1 w)) (K_44 K) (K_3x K) rfl K_jk (Orc.cons (by kernel_rfl) (K_h7 K [(0,102)] (by kernel_rfl)) (Orc.cons (by kernel_rfl) (K_h2 K [(0,102)] (by kernel_rfl)) (Orc.cons (by kernel_rfl) (K_9j K [(0,102)] (by kernel_rfl)) (Orc.cons (by kernel_rfl) (K_gv K [(0,102)] (by kernel_rfl)) (Orc.nil _ _ _))))) (fun _ _=>by kernel_rfl) x w y w2 h
end Go.Sh

namespace Go.Sh
open Go.Fw Go.Proofs.Tryd
end Go.Sh

namespace Go.Sh
open Go.Fw Go.Proofs.Tryd
end Go.Sh
