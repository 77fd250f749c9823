/- Texts of this claim, put together: Sh7, Sh8, Sh9 -/
import Derived.Test.YteomkfcfhlljkaaDoorAllShidcebk
set_option maxRecDepth 100000
set_option linter.unusedVariables false
namespace Go.Sh
open Go.Fw Go.Proofs.Tryd
noncomputable def K_1aw (K:Nat):List (Nat×CE):=[]
theorem K_ra(K:Nat):Env.Ok prog (tab (K_1aw K)):=(Env.nil _)
noncomputable def K_1bi (K:Nat):List (Nat×RE):=[]
theorem K_sy(K:Nat):REnv.Ok prog (tab (K_1bi K)):=(REnv.nil _)
noncomputable def K_9r (K:Nat) (rec:Sl→Sl→Int→World→Option ((Sl×Unit)×World)) (l0:Sl) (c3:Sl) (i4:Int) (w:World):Option ((Sl×Unit)×World):=
 if (decide (i4<70))=true then(bnd (bldS prog 29 1 #[(0,(.string str7))] w) fun s_3 w_4=>
 bnd (apd prog 29 29 (.slice c3.a c3.len c3.cap) (.slice s_3.a s_3.len s_3.cap) w_4) fun s_5 w_6=>
 rec l0 s_5 (IntKind.i64.wrap (i4+1)) w_6) else(some ((c3,()),w))
noncomputable def K_5i (K:Nat) (n:Nat):Sl→Sl→Int→World→Option ((Sl×Unit)×World):=iter (fun _ _ _ _=>none) (K_9r K) n
noncomputable def K_eo (K:Nat) (l0:Sl) (w:World):Option ((Sl×Unit)×World):=
 bnd (apd prog 29 29 (.slice none 0 0) (.slice l0.a l0.len l0.cap) w) fun s_1 w_2=>
 bnd (K_5i K K l0 s_1 0 w_2) fun y_7 w_8=>
 if (0:Int)≤((l0.len:Nat):Int)∧((l0.len:Nat):Int)≤((y_7.1.cap:Nat):Int) then(some ((⟨(sla y_7.1.a 0 y_7.1.cap 1),((Int.toNat (((l0.len:Nat):Int))) - 0),(y_7.1.cap - 0)⟩,()),w_8)) else none
theorem K_12a(K:Nat)(n:Nat):StmtNOk prog [(0,.sl),(3,.sl),(4,.int .i64)] [(3,.sl)] [(3,5),(9,16)] ((fun n x w=>K_5i K n x.1 x.2.1 x.2.2.1 w) n) (.block 0 (.loop (cd (bodyOf f25) [1,1,1,0,1,0,0]))):=
  K_4 (O:=tabL []) (root:=(bodyOf f25)) (π:=[1,1,1,0,1,0,0]) (Li:=[(0,.sl),(3,.sl),(4,.int .i64)]) (Lo:=[(3,.sl)]) (S:=(fun n x w=>K_5i K n x.1 x.2.1 x.2.2.1 w)) (K_ra K) (K_sy K) rfl (Orc.nil _ _ _) (by kernel_rfl) (fun _ _=>by kernel_rfl) (fun _ _ _=>by kernel_rfl) n
noncomputable def K_p1 (K:Nat):SE:=stmtN [(0,.sl),(3,.sl),(4,.int .i64)] [(3,.sl)] [(3,5),(9,16)] (fun x w=>K_5i K K x.1 x.2.1 x.2.2.1 w)
theorem K_w1(K:Nat)(R:Rg)(h:subRB [(3,5),(9,16)] R=true):(K_p1 K).Ok prog R (.block 0 (.loop (cd (bodyOf f25) [1,1,1,0,1,0,0]))):=K_2 (K_12a K K) (K_0 h)
theorem K_o1:FunFacts prog 25 f25 (bodyOf f25) [(0,.sl)] [(0,21)]:=⟨func25,by kernel_rfl,by kernel_rfl,by kernel_rfl,by kernel_rfl,by kernel_rfl⟩
theorem K_13p(K:Nat)(x:TT [(0,.sl)])(w:World)(y:TR [.sl])(w2:World)(h:K_eo K x.1 w=some (y,w2)):Calls prog 25 (encA [(0,.sl)] x).toArray w (fun e w3=>e= .returned (resV (encR [.sl] y))∧w3=w2):=
  K_b (O:=tabL [([1,1,1,0,1],K_p1 K)]) (Lp:=[(0,.sl)]) (Rt:=[.sl]) (S:=(fun x w=>K_eo K x.1 w)) (K_ra K) (K_sy K) rfl K_o1 (Orc.cons (by kernel_rfl) (K_w1 K [(0,21)] (by kernel_rfl)) (Orc.nil _ _ _)) (fun _ _=>by kernel_rfl) x w y w2 h
noncomputable def K_vn (K:Nat):CE:=funE [(0,.sl)] [.sl] (fun x w=>K_eo K x.1 w)
theorem K_197(K:Nat):(K_vn K).Ok prog 25:=K_8 K_o1 fun x w y w2 h=>K_13p K x w y w2 h
noncomputable def K_1cs:List (Nat×RE):=[]
theorem K_19k:REnv.Ok prog (tab (K_1cs)):=(REnv.nil _)
noncomputable def K_ec (c0:Int):Option (Bool×Unit):=
 if (c0 == 32)=true then(some (true,())) else(if (c0 == 9)=true then(some (true,())) else(if (c0 == 10)=true then(some (true,())) else(if (c0 == 13)=true then(some (true,())) else(some ((c0 == 45),())))))
theorem K_pz:FunFacts prog 130 f130 (bodyOf f130) [(0,.int .u8)] [(0,21)]:=⟨func130,by kernel_rfl,by kernel_rfl,by kernel_rfl,by kernel_rfl,by kernel_rfl⟩
theorem K_156(x:TT [(0,.int .u8)])(w:World)(y:TR [.bool])(h:K_ec x.1=some y):Calls prog 130 (encA [(0,.int .u8)] x).toArray w (fun e w3=>e= .returned (resV (encR [.bool] y))∧w3=w):=
  K_4j (O:=tabL []) (Lp:=[(0,.int .u8)]) (Rt:=[.bool]) (S:=(fun x w=>K_ec x.1)) (K_19k) K_pz (OrcQ.nil _ _ _) (fun _ _=>by kernel_rfl) x w y h
noncomputable def K_yy:RE:=funR [(0,.int .u8)] [.bool] (fun x w=>K_ec x.1)
theorem K_1c2:(K_yy).Ok prog 130:=K_4x K_pz fun x w y h=>K_156 x w y h
noncomputable def K_18o (K:Nat):List (Nat×RE):=[]
theorem K_qe(K:Nat):REnv.Ok prog (tab (K_18o K)):=(REnv.nil _)
noncomputable def K_8z (K:Nat) (rec:ByteArray→Int→Int→Option (Out (Unit) (Int×Unit))) (s0:ByteArray) (c1:Int) (i5:Int):Option (Out (Unit) (Int×Unit)):=
 if (decide (i5<((s0.size:Nat):Int)))=true then(if (0:Int)≤i5 then((s0[(Int.toNat i5)]?).bind fun b_1=>
 if (((b_1.toNat:Nat):Int) == c1)=true then(some (.ret (i5,()))) else(rec s0 c1 (IntKind.i64.wrap (i5+1)))) else none) else(some (.norm ()))
noncomputable def K_4n (K:Nat) (n:Nat):ByteArray→Int→Int→Option (Out (Unit) (Int×Unit)):=iter (fun _ _ _=>none) (K_8z K) n
noncomputable def K_34 (K:Nat) (s0:ByteArray) (c1:Int):Option (Int×Unit):=
 (K_4n K K s0 c1 0).bind fun y_2=>
 (match y_2 with
 | .norm z_3n=>(some ((-1),()))
 | .ret z_3r=>(some (z_3r.1,())))
theorem K_10b(K:Nat)(n:Nat):StmtQOk prog [(0,.str),(1,.int .u8),(5,.int .i64)] [] [(4,.int .i64)] [(4,18)] ((fun n x w=>K_4n K n x.1 x.2.1 x.2.2.1) n) (.block 0 (.loop (cd (bodyOf f131) [1,0,1,0,0]))):=
  K_c1 (O:=tabL []) (root:=(bodyOf f131)) (π:=[1,0,1,0,0]) (Li:=[(0,.str),(1,.int .u8),(5,.int .i64)]) (Lo:=[]) (Lr:=[(4,.int .i64)]) (S:=(fun n x w=>K_4n K n x.1 x.2.1 x.2.2.1)) (K_qe K) (OrcQ.nil _ _ _) (by kernel_rfl) (fun _ _=>by kernel_rfl) (fun _ _ _=>by kernel_rfl) n
noncomputable def K_ma (K:Nat):SQ:=stmtQ [(0,.str),(1,.int .u8),(5,.int .i64)] [] [(4,.int .i64)] [(4,18)] (fun x w=>K_4n K K x.1 x.2.1 x.2.2.1)
theorem K_un(K:Nat)(R:Rg)(h:subRB [(4,18)] R=true):(K_ma K).Ok prog R (.block 0 (.loop (cd (bodyOf f131) [1,0,1,0,0]))):=K_8r (K_10b K K) (K_0 h)
theorem K_lp:FunFacts prog 131 f131 (bodyOf f131) [(0,.str),(1,.int .u8)] [(0,18)]:=⟨func131,by kernel_rfl,by kernel_rfl,by kernel_rfl,by kernel_rfl,by kernel_rfl⟩
theorem K_zj(K:Nat)(x:TT [(0,.str),(1,.int .u8)])(w:World)(y:TR [.int .i64])(h:K_34 K x.1 x.2.1=some y):Calls prog 131 (encA [(0,.str),(1,.int .u8)] x).toArray w (fun e w3=>e= .returned (resV (encR [.int .i64] y))∧w3=w):=
  K_4j (O:=tabL [([1,0,1],K_ma K)]) (Lp:=[(0,.str),(1,.int .u8)]) (Rt:=[.int .i64]) (S:=(fun x w=>K_34 K x.1 x.2.1)) (K_qe K) K_lp (OrcQ.cons (by kernel_rfl) (K_un K [(0,18)] (by kernel_rfl)) (OrcQ.nil _ _ _)) (fun _ _=>by kernel_rfl) x w y h
noncomputable def K_r6 (K:Nat):RE:=funR [(0,.str),(1,.int .u8)] [.int .i64] (fun x w=>K_34 K x.1 x.2.1)
theorem K_17e(K:Nat):(K_r6 K).Ok prog 131:=K_4x K_lp fun x w y h=>K_zj K x w y h
noncomputable def K_1by (K:Nat):List (Nat×CE):=[]
theorem K_3c(K:Nat):Env.Ok prog (tab (K_1by K)):=(Env.nil _)
noncomputable def K_1bp (K:Nat):List (Nat×RE):=[(130,K_yy),(131,K_r6 K)]
theorem K_3a(K:Nat):REnv.Ok prog (tab (K_1bp K)):=(REnv.cons (K_1c2) (REnv.cons (K_17e K) (REnv.nil _)))
noncomputable def K_9m (K:Nat) (rec:ByteArray→Sl→Int→Int→World→Option ((Int×Unit)×World)) (s0:ByteArray) (out4:Sl) (i5:Int) (from6:Int) (w:World):Option ((Int×Unit)×World):=
 if (decide (i5<((s0.size:Nat):Int)))=true then(if (0:Int)≤i5 then((s0[(Int.toNat i5)]?).bind fun b_3=>
 (K_ec ((b_3.toNat:Nat):Int)).bind fun r_4=>
 if (!r_4.1)=true then(rec s0 out4 (IntKind.i64.wrap (i5+1)) from6 w) else(some ((i5,()),w))) else none) else(some ((i5,()),w))
noncomputable def K_72 (K:Nat) (n:Nat):ByteArray→Sl→Int→Int→World→Option ((Int×Unit)×World):=iter (fun _ _ _ _ _=>none) (K_9m K) n
noncomputable def K_5j (K:Nat) (c10:Int) (w:World):Option ((Bool×Unit)×World):=
 if (decide (c10≥65))=true then(some (((decide (c10≤90)),()),w)) else(some ((false,()),w))
noncomputable def K_5q (K:Nat) (c10:Int) (a55:Bool) (w:World):Option ((Int×Unit)×World):=
 if a55=true then(some (((IntKind.u8.wrap (c10+32)),()),w)) else(some ((c10,()),w))
noncomputable def K_9b (K:Nat) (well8:Bool) (p11:Int) (w:World):Option ((Bool×Unit)×World):=
 if well8=true then(some (((decide (p11≥0)),()),w)) else(some ((false,()),w))
noncomputable def K_9i (K:Nat) (well8:Bool) (p12:Int) (w:World):Option ((Bool×Unit)×World):=
 if well8=true then(some (((decide (p12≥0)),()),w)) else(some ((false,()),w))
noncomputable def K_2l (K:Nat) (rec:ByteArray→Sl→Int→Int→Int→Bool→Int→World→Option ((Int×Bool×Unit)×World)) (s0:ByteArray) (out4:Sl) (i5:Int) (from6:Int) (v7:Int) (well8:Bool) (k9:Int) (w:World):Option ((Int×Bool×Unit)×World):=
 if (decide (k9<5))=true then(if (0:Int)≤(IntKind.i64.wrap (from6+k9)) then((s0[(Int.toNat (IntKind.i64.wrap (from6+k9)))]?).bind fun b_7=>
 bnd (K_5j K ((b_7.toNat:Nat):Int) w) fun y_8 w_9=>
 bnd (K_5q K ((b_7.toNat:Nat):Int) y_8.1 w_9) fun y_10 w_11=>
 if ((Int.tmod k9 2) == 0)=true then((K_34 K str1 y_10.1).bind fun r_12=>
 bnd (K_9b K well8 r_12.1 w_11) fun y_13 w_14=>
 rec s0 out4 i5 from6 (IntKind.i64.wrap ((IntKind.i64.wrap (v7*16))+r_12.1)) y_13.1 (IntKind.i64.wrap (k9+1)) w_14) else((K_34 K str2 y_10.1).bind fun r_15=>
 bnd (K_9i K well8 r_15.1 w_11) fun y_16 w_17=>
 rec s0 out4 i5 from6 (IntKind.i64.wrap ((IntKind.i64.wrap (v7*4))+r_15.1)) y_16.1 (IntKind.i64.wrap (k9+1)) w_17)) else none) else(some ((v7,well8,()),w))
noncomputable def K_j (K:Nat) (n:Nat):ByteArray→Sl→Int→Int→Int→Bool→Int→World→Option ((Int×Bool×Unit)×World):=iter (fun _ _ _ _ _ _ _ _=>none) (K_2l K) n
noncomputable def K_cp (K:Nat) (v7:Int) (a84:Bool) (w:World):Option ((Int×Unit)×World):=
 if a84=true then(some ((0,()),w)) else(some ((v7,()),w))
noncomputable def K_i4 (K:Nat) (rec:ByteArray→Sl→Int→World→Option ((Out (Sl×Unit) (Sl×Bool×Unit))×World)) (s0:ByteArray) (out4:Sl) (i5:Int) (w:World):Option ((Out (Sl×Unit) (Sl×Bool×Unit))×World):=
 if (decide (i5<((s0.size:Nat):Int)))=true then(if (0:Int)≤i5 then((s0[(Int.toNat i5)]?).bind fun b_1=>
 (K_ec ((b_1.toNat:Nat):Int)).bind fun r_2=>
 if r_2.1=true then(rec s0 out4 (IntKind.i64.wrap (i5+1)) w) else(bnd (K_72 K K s0 out4 i5 i5 w) fun y_5 w_6=>
 if ((IntKind.i64.wrap (y_5.1 - i5)) != 5)=true then(some (.ret (⟨none,0,0⟩,false,()),w_6)) else(bnd (K_j K K s0 out4 y_5.1 i5 0 true 0 w_6) fun y_18 w_19=>
 bnd (K_cp K y_18.1 (!y_18.2.1) w_19) fun y_20 w_21=>
 bnd (bldS prog 23 2 #[(0,(.int .u8 (IntKind.u8.wrap (IntKind.i64.wrap (Int.tdiv y_20.1 256))))),(1,(.int .u8 (IntKind.u8.wrap (Int.tmod y_20.1 256))))] w_21) fun s_22 w_23=>
 bnd (apd prog 23 23 (.slice out4.a out4.len out4.cap) (.slice s_22.a s_22.len s_22.cap) w_23) fun s_24 w_25=>
 rec s0 s_24 y_5.1 w_25))) else none) else(some (.norm (out4,()),w))
noncomputable def K_35 (K:Nat) (n:Nat):ByteArray→Sl→Int→World→Option ((Out (Sl×Unit) (Sl×Bool×Unit))×World):=iter (fun _ _ _ _=>none) (K_i4 K) n
noncomputable def K_ey (K:Nat) (s0:ByteArray) (w:World):Option ((Sl×Bool×Unit)×World):=
 bnd (K_35 K K s0 ⟨none,0,0⟩ 0 w) fun y_26 w_27=>
 (match y_26 with
 | .norm z_28n=>(some ((z_28n.1,true,()),w_27))
 | .ret z_28r=>(some ((z_28r.1,z_28r.2.1,()),w_27)))
theorem K_135(K:Nat)(n:Nat):StmtNOk prog [(0,.str),(4,.sl),(5,.int .i64),(6,.int .i64)] [(5,.int .i64)] [(5,6),(24,37)] ((fun n x w=>K_72 K n x.1 x.2.1 x.2.2.1 x.2.2.2.1 w) n) (.block 2 (.loop (cd (bodyOf f109) [1,1,1,0,0,0,1,0,1,1,0,0,0]))):=
  K_4 (O:=tabL []) (root:=(bodyOf f109)) (π:=[1,1,1,0,0,0,1,0,1,1,0,0,0]) (Li:=[(0,.str),(4,.sl),(5,.int .i64),(6,.int .i64)]) (Lo:=[(5,.int .i64)]) (S:=(fun n x w=>K_72 K n x.1 x.2.1 x.2.2.1 x.2.2.2.1 w)) (K_3c K) (K_3a K) rfl (Orc.nil _ _ _) (by kernel_rfl) (fun _ _=>by kernel_rfl) (fun _ _ _=>by kernel_rfl) n
noncomputable def K_g8 (K:Nat):SE:=stmtN [(0,.str),(4,.sl),(5,.int .i64),(6,.int .i64)] [(5,.int .i64)] [(5,6),(24,37)] (fun x w=>K_72 K K x.1 x.2.1 x.2.2.1 x.2.2.2.1 w)
theorem K_ir(K:Nat)(R:Rg)(h:subRB [(5,6),(24,37)] R=true):(K_g8 K).Ok prog R (.block 2 (.loop (cd (bodyOf f109) [1,1,1,0,0,0,1,0,1,1,0,0,0]))):=K_2 (K_135 K K) (K_0 h)
theorem K_12j(K:Nat):StmtNOk prog [(10,.int .u8)] [(55,.bool)] [(50,56)] (fun x w=>K_5j K x.1 w) (cd (bodyOf f109) [1,1,1,0,0,0,1,0,1,1,1,1,1,1,0,1,0,0,1,0,0,1,0,0]):=
  K_g (O:=tabL []) (root:=(bodyOf f109)) (π:=[1,1,1,0,0,0,1,0,1,1,1,1,1,1,0,1,0,0,1,0,0,1,0,0]) (K_3c K) (K_3a K) rfl (Orc.nil _ _ _) (by kernel_rfl) (fun _ _=>by kernel_rfl)
noncomputable def K_cc (K:Nat):SE:=stmtN [(10,.int .u8)] [(55,.bool)] [(50,56)] (fun x w=>K_5j K x.1 w)
theorem K_d9(K:Nat)(R:Rg)(h:subRB [(50,56)] R=true):(K_cc K).Ok prog R (cd (bodyOf f109) [1,1,1,0,0,0,1,0,1,1,1,1,1,1,0,1,0,0,1,0,0,1,0,0]):=K_2 (K_12j K) (K_0 h)
theorem K_11t(K:Nat):StmtNOk prog [(10,.int .u8),(55,.bool)] [(10,.int .u8)] [(10,11),(56,58)] (fun x w=>K_5q K x.1 x.2.1 w) (cd (bodyOf f109) [1,1,1,0,0,0,1,0,1,1,1,1,1,1,0,1,0,0,1,0,0,1,0,1]):=
  K_g (O:=tabL []) (root:=(bodyOf f109)) (π:=[1,1,1,0,0,0,1,0,1,1,1,1,1,1,0,1,0,0,1,0,0,1,0,1]) (K_3c K) (K_3a K) rfl (Orc.nil _ _ _) (by kernel_rfl) (fun _ _=>by kernel_rfl)
noncomputable def K_cd (K:Nat):SE:=stmtN [(10,.int .u8),(55,.bool)] [(10,.int .u8)] [(10,11),(56,58)] (fun x w=>K_5q K x.1 x.2.1 w)
theorem K_d4(K:Nat)(R:Rg)(h:subRB [(10,11),(56,58)] R=true):(K_cd K).Ok prog R (cd (bodyOf f109) [1,1,1,0,0,0,1,0,1,1,1,1,1,1,0,1,0,0,1,0,0,1,0,1]):=K_2 (K_11t K) (K_0 h)
theorem K_126(K:Nat):StmtNOk prog [(8,.bool),(11,.int .i64)] [(8,.bool)] [(8,9),(63,68)] (fun x w=>K_9b K x.1 x.2.1 w) (cd (bodyOf f109) [1,1,1,0,0,0,1,0,1,1,1,1,1,1,0,1,0,0,1,0,0,1,1,1,0,1,0]):=
  K_g (O:=tabL []) (root:=(bodyOf f109)) (π:=[1,1,1,0,0,0,1,0,1,1,1,1,1,1,0,1,0,0,1,0,0,1,1,1,0,1,0]) (K_3c K) (K_3a K) rfl (Orc.nil _ _ _) (by kernel_rfl) (fun _ _=>by kernel_rfl)
noncomputable def K_c5 (K:Nat):SE:=stmtN [(8,.bool),(11,.int .i64)] [(8,.bool)] [(8,9),(63,68)] (fun x w=>K_9b K x.1 x.2.1 w)
theorem K_de(K:Nat)(R:Rg)(h:subRB [(8,9),(63,68)] R=true):(K_c5 K).Ok prog R (cd (bodyOf f109) [1,1,1,0,0,0,1,0,1,1,1,1,1,1,0,1,0,0,1,0,0,1,1,1,0,1,0]):=K_2 (K_126 K) (K_0 h)
theorem K_11r(K:Nat):StmtNOk prog [(8,.bool),(12,.int .i64)] [(8,.bool)] [(8,9),(74,79)] (fun x w=>K_9i K x.1 x.2.1 w) (cd (bodyOf f109) [1,1,1,0,0,0,1,0,1,1,1,1,1,1,0,1,0,0,1,0,0,1,1,1,1,1,0]):=
  K_g (O:=tabL []) (root:=(bodyOf f109)) (π:=[1,1,1,0,0,0,1,0,1,1,1,1,1,1,0,1,0,0,1,0,0,1,1,1,1,1,0]) (K_3c K) (K_3a K) rfl (Orc.nil _ _ _) (by kernel_rfl) (fun _ _=>by kernel_rfl)
noncomputable def K_c7 (K:Nat):SE:=stmtN [(8,.bool),(12,.int .i64)] [(8,.bool)] [(8,9),(74,79)] (fun x w=>K_9i K x.1 x.2.1 w)
theorem K_dd(K:Nat)(R:Rg)(h:subRB [(8,9),(74,79)] R=true):(K_c7 K).Ok prog R (cd (bodyOf f109) [1,1,1,0,0,0,1,0,1,1,1,1,1,1,0,1,0,0,1,0,0,1,1,1,1,1,0]):=K_2 (K_11r K) (K_0 h)
theorem K_136(K:Nat)(n:Nat):StmtNOk prog [(0,.str),(4,.sl),(5,.int .i64),(6,.int .i64),(7,.int .i64),(8,.bool),(9,.int .i64)] [(7,.int .i64),(8,.bool)] [(7,13),(41,83)] ((fun n x w=>K_j K n x.1 x.2.1 x.2.2.1 x.2.2.2.1 x.2.2.2.2.1 x.2.2.2.2.2.1 x.2.2.2.2.2.2.1 w) n) (.block 4 (.loop (cd (bodyOf f109) [1,1,1,0,0,0,1,0,1,1,1,1,1,1,0,1,0,0]))):=
  K_4 (O:=tabL [([1,1,1,0,0,0,1,0,1,1,1,1,1,1,0,1,0,0,1,0,0,1,0,0],K_cc K),([1,1,1,0,0,0,1,0,1,1,1,1,1,1,0,1,0,0,1,0,0,1,0,1],K_cd K),([1,1,1,0,0,0,1,0,1,1,1,1,1,1,0,1,0,0,1,0,0,1,1,1,0,1,0],K_c5 K),([1,1,1,0,0,0,1,0,1,1,1,1,1,1,0,1,0,0,1,0,0,1,1,1,1,1,0],K_c7 K)]) (root:=(bodyOf f109)) (π:=[1,1,1,0,0,0,1,0,1,1,1,1,1,1,0,1,0,0]) (Li:=[(0,.str),(4,.sl),(5,.int .i64),(6,.int .i64),(7,.int .i64),(8,.bool),(9,.int .i64)]) (Lo:=[(7,.int .i64),(8,.bool)]) (S:=(fun n x w=>K_j K n x.1 x.2.1 x.2.2.1 x.2.2.2.1 x.2.2.2.2.1 x.2.2.2.2.2.1 x.2.2.2.2.2.2.1 w)) (K_3c K) (K_3a K) rfl (Orc.cons (by kernel_rfl) (K_d9 K [(7,13),(41,83)] (by kernel_rfl)) (Orc.cons (by kernel_rfl) (K_d4 K [(7,13),(41,83)] (by kernel_rfl)) (Orc.cons (by kernel_rfl) (K_de K [(7,13),(41,83)] (by kernel_rfl)) (Orc.cons (by kernel_rfl) (K_dd K [(7,13),(41,83)] (by kernel_rfl)) (Orc.nil _ _ _))))) (by kernel_rfl) (fun _ _=>by kernel_rfl) (fun _ _ _=>by kernel_rfl) n
noncomputable def K_gk (K:Nat):SE:=stmtN [(0,.str),(4,.sl),(5,.int .i64),(6,.int .i64),(7,.int .i64),(8,.bool),(9,.int .i64)] [(7,.int .i64),(8,.bool)] [(7,13),(41,83)] (fun x w=>K_j K K x.1 x.2.1 x.2.2.1 x.2.2.2.1 x.2.2.2.2.1 x.2.2.2.2.2.1 x.2.2.2.2.2.2.1 w)
theorem K_io(K:Nat)(R:Rg)(h:subRB [(7,13),(41,83)] R=true):(K_gk K).Ok prog R (.block 4 (.loop (cd (bodyOf f109) [1,1,1,0,0,0,1,0,1,1,1,1,1,1,0,1,0,0]))):=K_2 (K_136 K K) (K_0 h)
theorem K_12i(K:Nat):StmtNOk prog [(7,.int .i64),(84,.bool)] [(7,.int .i64)] [(7,8)] (fun x w=>K_cp K x.1 x.2.1 w) (cd (bodyOf f109) [1,1,1,0,0,0,1,0,1,1,1,1,1,1,1,0,1]):=
  K_g (O:=tabL []) (root:=(bodyOf f109)) (π:=[1,1,1,0,0,0,1,0,1,1,1,1,1,1,1,0,1]) (K_3c K) (K_3a K) rfl (Orc.nil _ _ _) (by kernel_rfl) (fun _ _=>by kernel_rfl)
noncomputable def K_gb (K:Nat):SE:=stmtN [(7,.int .i64),(84,.bool)] [(7,.int .i64)] [(7,8)] (fun x w=>K_cp K x.1 x.2.1 w)
theorem K_iv(K:Nat)(R:Rg)(h:subRB [(7,8)] R=true):(K_gb K).Ok prog R (cd (bodyOf f109) [1,1,1,0,0,0,1,0,1,1,1,1,1,1,1,0,1]):=K_2 (K_12i K) (K_0 h)
theorem K_13t(K:Nat)(n:Nat):StmtOk prog [(0,.str),(4,.sl),(5,.int .i64)] [(4,.sl)] [(2,.sl),(3,.bool)] [(2,94)] ((fun n x w=>K_35 K n x.1 x.2.1 x.2.2.1 w) n) (.block 0 (.loop (cd (bodyOf f109) [1,1,1,0,0,0]))):=
  K_26 (O:=tabL [([1,1,1,0,0,0,1,0,1,1,0],K_g8 K),([1,1,1,0,0,0,1,0,1,1,1,1,1,1,0,1],K_gk K),([1,1,1,0,0,0,1,0,1,1,1,1,1,1,0,1,0,0,1,0,0,1,0,0],K_cc K),([1,1,1,0,0,0,1,0,1,1,1,1,1,1,0,1,0,0,1,0,0,1,0,1],K_cd K),([1,1,1,0,0,0,1,0,1,1,1,1,1,1,0,1,0,0,1,0,0,1,1,1,0,1,0],K_c5 K),([1,1,1,0,0,0,1,0,1,1,1,1,1,1,0,1,0,0,1,0,0,1,1,1,1,1,0],K_c7 K),([1,1,1,0,0,0,1,0,1,1,1,1,1,1,1,0,1],K_gb K)]) (root:=(bodyOf f109)) (π:=[1,1,1,0,0,0]) (Li:=[(0,.str),(4,.sl),(5,.int .i64)]) (Lo:=[(4,.sl)]) (Lr:=[(2,.sl),(3,.bool)]) (S:=(fun n x w=>K_35 K n x.1 x.2.1 x.2.2.1 w)) (K_3c K) (K_3a K) rfl (Orc.cons (by kernel_rfl) (K_ir K [(2,94)] (by kernel_rfl)) (Orc.cons (by kernel_rfl) (K_io K [(2,94)] (by kernel_rfl)) (Orc.cons (by kernel_rfl) (K_d9 K [(2,94)] (by kernel_rfl)) (Orc.cons (by kernel_rfl) (K_d4 K [(2,94)] (by kernel_rfl)) (Orc.cons (by kernel_rfl) (K_de K [(2,94)] (by kernel_rfl)) (Orc.cons (by kernel_rfl) (K_dd K [(2,94)] (by kernel_rfl)) (Orc.cons (by kernel_rfl) (K_iv K [(2,94)] (by kernel_rfl)) (Orc.nil _ _ _)))))))) (by kernel_rfl) (fun _ _=>by kernel_rfl) (fun _ _ _=>by kernel_rfl) n
noncomputable def K_oh (K:Nat):SE:=stmt [(0,.str),(4,.sl),(5,.int .i64)] [(4,.sl)] [(2,.sl),(3,.bool)] [(2,94)] (fun x w=>K_35 K K x.1 x.2.1 x.2.2.1 w)
theorem K_wc(K:Nat)(R:Rg)(h:subRB [(2,94)] R=true):(K_oh K).Ok prog R (.block 0 (.loop (cd (bodyOf f109) [1,1,1,0,0,0]))):=K_1o (K_13t K K) (K_0 h)
theorem K_o2:FunFacts prog 109 f109 (bodyOf f109) [(0,.str)] [(0,95)]:=⟨func109,by kernel_rfl,by kernel_rfl,by kernel_rfl,by kernel_rfl,by kernel_rfl⟩
theorem K_12g(K:Nat)(x:TT [(0,.str)])(w:World)(y:TR [.sl,.bool])(w2:World)(h:K_ey K x.1 w=some (y,w2)):Calls prog 109 (encA [(0,.str)] x).toArray w (fun e w3=>e= .returned (resV (encR [.sl,.bool] y))∧w3=w2):=
  K_b (O:=tabL [([1,1,1,0],K_oh K),([1,1,1,0,0,0,1,0,1,1,0],K_g8 K),([1,1,1,0,0,0,1,0,1,1,1,1,1,1,0,1],K_gk K),([1,1,1,0,0,0,1,0,1,1,1,1,1,1,0,1,0,0,1,0,0,1,0,0],K_cc K),([1,1,1,0,0,0,1,0,1,1,1,1,1,1,0,1,0,0,1,0,0,1,0,1],K_cd K),([1,1,1,0,0,0,1,0,1,1,1,1,1,1,0,1,0,0,1,0,0,1,1,1,0,1,0],K_c5 K),([1,1,1,0,0,0,1,0,1,1,1,1,1,1,0,1,0,0,1,0,0,1,1,1,1,1,0],K_c7 K),([1,1,1,0,0,0,1,0,1,1,1,1,1,1,1,0,1],K_gb K)]) (Lp:=[(0,.str)]) (Rt:=[.sl,.bool]) (S:=(fun x w=>K_ey K x.1 w)) (K_3c K) (K_3a K) rfl K_o2 (Orc.cons (by kernel_rfl) (K_wc K [(0,95)] (by kernel_rfl)) (Orc.cons (by kernel_rfl) (K_ir K [(0,95)] (by kernel_rfl)) (Orc.cons (by kernel_rfl) (K_io K [(0,95)] (by kernel_rfl)) (Orc.cons (by kernel_rfl) (K_d9 K [(0,95)] (by kernel_rfl)) (Orc.cons (by kernel_rfl) (K_d4 K [(0,95)] (by kernel_rfl)) (Orc.cons (by kernel_rfl) (K_de K [(0,95)] (by kernel_rfl)) (Orc.cons (by kernel_rfl) (K_dd K [(0,95)] (by kernel_rfl)) (Orc.cons (by kernel_rfl) (K_iv K [(0,95)] (by kernel_rfl)) (Orc.nil _ _ _))))))))) (fun _ _=>by kernel_rfl) x w y w2 h
noncomputable def K_v8 (K:Nat):CE:=funE [(0,.str)] [.sl,.bool] (fun x w=>K_ey K x.1 w)
theorem K_19r(K:Nat):(K_v8 K).Ok prog 109:=K_8 K_o2 fun x w y w2 h=>K_12g K x w y w2 h
noncomputable def K_1at (K:Nat):List (Nat×CE):=[(103,K_lg K),(104,K_dh K)]
theorem K_62(K:Nat):Env.Ok prog (tab (K_1at K)):=(Env.cons (K_vh K) (Env.cons (K_ia K) (Env.nil _)))
noncomputable def K_1a8 (K:Nat):List (Nat×RE):=[(76,K_4e K)]
theorem K_5y(K:Nat):REnv.Ok prog (tab (K_1a8 K)):=(REnv.cons (K_5z K) (REnv.nil _))
noncomputable def K_cl (K:Nat) (s5:Addr) (x11:Int) (y12:Int) (w:World):Option ((Bool×Unit)×World):=
 (ldI .u8 (s5.add (1*1)) w.drew).bind fun v_27=>
 (ldI .u8 (s5.add (0*1)) w.drew).bind fun v_28=>
 (K_c K v_28 x11).bind fun r_29=>
 if (v_27 == r_29.1)=true then((ldI .u8 (s5.add (2*1)) w.drew).bind fun v_30=>
 (ldI .u8 (s5.add (0*1)) w.drew).bind fun v_31=>
 (K_c K v_31 y12).bind fun r_32=>
 if (v_30 == r_32.1)=true then((ldI .u8 (s5.add (3*1)) w.drew).bind fun v_33=>
 (ldI .u8 (s5.add (0*1)) w.drew).bind fun v_34=>
 (K_c K x11 y12).bind fun r_35=>
 (K_c K v_34 r_35.1).bind fun r_36=>
 some (((v_33 == r_36.1),()),w.drew)) else(some ((false,()),w.drew))) else(some ((false,()),w.drew))
noncomputable def K_9x (K:Nat) (rec:Sl→Addr→Int→Sl→Int→World→Option ((Out (Unit) (Sl×Int×Bool×Unit))×World)) (b0:Sl) (s5:Addr) (n7:Int) (p8:Sl) (i9:Int) (w:World):Option ((Out (Unit) (Sl×Int×Bool×Unit))×World):=
 if (decide (i9<n7))=true then(bnd (bldS prog 23 0 #[] w) fun s_15 w_16=>
 bnd (apd prog 23 23 (.slice s_15.a s_15.len s_15.cap) (.slice b0.a b0.len b0.cap) w_16) fun s_17 w_18=>
 (s_17.a).bind fun p_19=>
 if (0:Int)≤i9∧i9<((s_17.len:Nat):Int) then((ldI .u8 (p_19.add ((Int.toNat i9)*1)) w_18.drew).bind fun v_20=>
 (ldI .u8 (s5.add (0*1)) w_18.drew).bind fun v_21=>
 (s_17.a).bind fun p_22=>
 if (0:Int)≤i9∧i9<((s_17.len:Nat):Int) then((stC (p_22.add ((Int.toNat i9)*1)) (.int .u8 (bits .xor .u8 v_20 v_21)) w_18.drew).bind fun w_23=>
 (p8.a).bind fun p_24=>
 if (0:Int)≤(IntKind.i64.wrap ((IntKind.i64.wrap (n7 - 1)) - i9))∧(IntKind.i64.wrap ((IntKind.i64.wrap (n7 - 1)) - i9))<((p8.len:Nat):Int) then((ldI .u8 (p_24.add ((Int.toNat (IntKind.i64.wrap ((IntKind.i64.wrap (n7 - 1)) - i9)))*1)) w_23).bind fun v_25=>
 (K_c K v_25 v_25).bind fun r_26=>
 bnd (K_cl K s5 v_25 r_26.1 w_23) fun y_37 w_38=>
 if y_37.1=true then((ldI .u8 (s5.add (0*1)) w_38.drew).bind fun v_39=>
 some (.ret (s_17,1,(v_39 != 0),()),w_38.drew)) else(rec b0 s5 n7 p8 (IntKind.i64.wrap (i9+1)) w_38)) else none) else none) else none) else(some (.norm (),w))
noncomputable def K_1d (K:Nat) (n:Nat):Sl→Addr→Int→Sl→Int→World→Option ((Out (Unit) (Sl×Int×Bool×Unit))×World):=iter (fun _ _ _ _ _ _=>none) (K_9x K) n
noncomputable def K_9t (K:Nat) (rec:Sl→Addr→Int→Sl→Addr→Int→World→Option ((Unit)×World)) (b0:Sl) (s5:Addr) (n7:Int) (p8:Sl) (inverse13:Addr) (i14:Int) (w:World):Option ((Unit)×World):=
 if (decide (i14<255))=true then((p8.a).bind fun p_45=>
 if (0:Int)≤i14∧i14<((p8.len:Nat):Int) then((p8.a).bind fun p_46=>
 if (0:Int)≤(Int.tmod (IntKind.i64.wrap (255 - i14)) 255)∧(Int.tmod (IntKind.i64.wrap (255 - i14)) 255)<((p8.len:Nat):Int) then((ldI .u8 (p_45.add ((Int.toNat i14)*1)) w.drew).bind fun v_47=>
 (ldI .u8 (p_46.add ((Int.toNat (Int.tmod (IntKind.i64.wrap (255 - i14)) 255))*1)) w.drew).bind fun v_48=>
 if (0:Int)≤v_47∧v_47<((256:Nat):Int) then((stC (inverse13.add ((Int.toNat v_47)*1)) (.int .u8 v_48) w.drew).bind fun w_49=>
 rec b0 s5 n7 p8 inverse13 (IntKind.i64.wrap (i14+1)) w_49) else none) else none) else none) else(some ((),w))
noncomputable def K_5k (K:Nat) (n:Nat):Sl→Addr→Int→Sl→Addr→Int→World→Option ((Unit)×World):=iter (fun _ _ _ _ _ _ _=>none) (K_9t K) n
noncomputable def K_cj (K:Nat) (s5:Addr) (x16:Int) (y18:Int) (w19:Int) (v20:Int) (w:World):Option ((Bool×Unit)×World):=
 (ldI .u8 (s5.add (2*1)) w.drew).bind fun v_62=>
 (K_c K x16 x16).bind fun r_63=>
 (K_c K v20 r_63.1).bind fun r_64=>
 (K_c K y18 y18).bind fun r_65=>
 (K_c K w19 r_65.1).bind fun r_66=>
 if (v_62 != (bits .xor .u8 r_64.1 r_66.1))=true then(some ((true,()),w.drew)) else((ldI .u8 (s5.add (3*1)) w.drew).bind fun v_67=>
 (K_c K x16 x16).bind fun r_68=>
 (K_c K x16 r_68.1).bind fun r_69=>
 (K_c K v20 r_69.1).bind fun r_70=>
 (K_c K y18 y18).bind fun r_71=>
 (K_c K y18 r_71.1).bind fun r_72=>
 (K_c K w19 r_72.1).bind fun r_73=>
 if (v_67 != (bits .xor .u8 r_70.1 r_73.1))=true then(some ((true,()),w.drew)) else(if (v20 == 0)=true then(some ((true,()),w.drew)) else(some (((w19 == 0),()),w.drew))))
noncomputable def K_9q (K:Nat) (rec:Sl→Addr→Int→Sl→Addr→Int→Int→Int→World→Option ((Out (Unit) (Sl×Int×Bool×Unit))×World)) (b0:Sl) (s5:Addr) (n7:Int) (p8:Sl) (inverse13:Addr) (i15:Int) (x16:Int) (k17:Int) (w:World):Option ((Out (Unit) (Sl×Int×Bool×Unit))×World):=
 if (decide (k17<n7))=true then((p8.a).bind fun p_54=>
 if (0:Int)≤(IntKind.i64.wrap ((IntKind.i64.wrap (n7 - 1)) - k17))∧(IntKind.i64.wrap ((IntKind.i64.wrap (n7 - 1)) - k17))<((p8.len:Nat):Int) then((ldI .u8 (p_54.add ((Int.toNat (IntKind.i64.wrap ((IntKind.i64.wrap (n7 - 1)) - k17)))*1)) w).bind fun v_55=>
 if (0:Int)≤(bits .xor .u8 x16 v_55)∧(bits .xor .u8 x16 v_55)<((256:Nat):Int) then((ldI .u8 (s5.add (1*1)) w.drew).bind fun v_56=>
 (ldI .u8 (s5.add (0*1)) w.drew).bind fun v_57=>
 (K_c K v_57 x16).bind fun r_58=>
 (ldI .u8 (inverse13.add ((Int.toNat (bits .xor .u8 x16 v_55))*1)) w.drew).bind fun v_59=>
 (K_c K (bits .xor .u8 v_56 r_58.1) v_59).bind fun r_60=>
 (ldI .u8 (s5.add (0*1)) w.drew).bind fun v_61=>
 bnd (K_cj K s5 x16 v_55 r_60.1 (bits .xor .u8 v_61 r_60.1) w.drew) fun y_74 w_75=>
 if y_74.1=true then(rec b0 s5 n7 p8 inverse13 i15 x16 (IntKind.i64.wrap (k17+1)) w_75) else(bnd (bldS prog 23 0 #[] w_75) fun s_76 w_77=>
 bnd (apd prog 23 23 (.slice s_76.a s_76.len s_76.cap) (.slice b0.a b0.len b0.cap) w_77) fun s_78 w_79=>
 (s_78.a).bind fun p_80=>
 if (0:Int)≤i15∧i15<((s_78.len:Nat):Int) then((ldI .u8 (p_80.add ((Int.toNat i15)*1)) w_79).bind fun v_81=>
 (s_78.a).bind fun p_82=>
 if (0:Int)≤i15∧i15<((s_78.len:Nat):Int) then((stC (p_82.add ((Int.toNat i15)*1)) (.int .u8 (bits .xor .u8 v_81 (bits .xor .u8 v_61 r_60.1))) w_79).bind fun w_83=>
 (s_78.a).bind fun p_84=>
 if (0:Int)≤k17∧k17<((s_78.len:Nat):Int) then((ldI .u8 (p_84.add ((Int.toNat k17)*1)) w_83).bind fun v_85=>
 (s_78.a).bind fun p_86=>
 if (0:Int)≤k17∧k17<((s_78.len:Nat):Int) then((stC (p_86.add ((Int.toNat k17)*1)) (.int .u8 (bits .xor .u8 v_85 r_60.1)) w_83).bind fun w_87=>
 some (.ret (s_78,2,true,()),w_87)) else none) else none) else none) else none)) else none) else none) else(some (.norm (),w))
noncomputable def K_44 (K:Nat) (n:Nat):Sl→Addr→Int→Sl→Addr→Int→Int→Int→World→Option ((Out (Unit) (Sl×Int×Bool×Unit))×World):=iter (fun _ _ _ _ _ _ _ _ _=>none) (K_9q K) n
noncomputable def K_9k (K:Nat) (rec:Sl→Addr→Int→Sl→Addr→Int→World→Option ((Out (Unit) (Sl×Int×Bool×Unit))×World)) (b0:Sl) (s5:Addr) (n7:Int) (p8:Sl) (inverse13:Addr) (i15:Int) (w:World):Option ((Out (Unit) (Sl×Int×Bool×Unit))×World):=
 if (decide (i15<n7))=true then((p8.a).bind fun p_52=>
 if (0:Int)≤(IntKind.i64.wrap ((IntKind.i64.wrap (n7 - 1)) - i15))∧(IntKind.i64.wrap ((IntKind.i64.wrap (n7 - 1)) - i15))<((p8.len:Nat):Int) then((ldI .u8 (p_52.add ((Int.toNat (IntKind.i64.wrap ((IntKind.i64.wrap (n7 - 1)) - i15)))*1)) w).bind fun v_53=>
 bnd (K_44 K K b0 s5 n7 p8 inverse13 i15 v_53 (IntKind.i64.wrap (i15+1)) w) fun y_88 w_89=>
 (match y_88 with
 | .norm z_90n=>(rec b0 s5 n7 p8 inverse13 (IntKind.i64.wrap (i15+1)) w_89)
 | .ret z_90r=>(some (.ret (z_90r.1,z_90r.2.1,z_90r.2.2.1,()),w_89)))) else none) else(some (.norm (),w))
noncomputable def K_2a (K:Nat) (n:Nat):Sl→Addr→Int→Sl→Addr→Int→World→Option ((Out (Unit) (Sl×Int×Bool×Unit))×World):=iter (fun _ _ _ _ _ _ _=>none) (K_9k K) n
noncomputable def K_ev (K:Nat) (b0:Sl) (w:World):Option ((Sl×Int×Bool×Unit)×World):=
 bnd (K_c0 K b0 w) fun r_1 w_2=>
 bnd (newB z153 153 w_2) fun s_3 w_4=>
 if (r_1.1).size=4 then((stA s_3 r_1.1 w_4).bind fun w_5=>
 (prog.built 153 []).bind fun cs_6=>
 bnd (newB z153 153 w_5) fun zero_7 w_8=>
 if (cs_6).size=4 then((stA zero_7 cs_6 w_8).bind fun w_9=>
 (ldA 4 s_3 w_9).bind fun v_10=>
 (ldA 4 zero_7 w_9).bind fun v_11=>
 (eqA prog 153 v_10 v_11).bind fun b_12=>
 if b_12=true then(some ((b0,0,true,()),w_9)) else(bnd (K_2y K 255 w_9) fun r_13 w_14=>
 bnd (K_1d K K b0 s_3 ((b0.len:Nat):Int) r_13.1 0 w_14) fun y_40 w_41=>
 (match y_40 with
 | .norm z_42n=>(bnd (newB z188 188 w_41) fun inverse_43 w_44=>
 bnd (K_5k K K b0 s_3 ((b0.len:Nat):Int) r_13.1 inverse_43 0 w_44) fun y_50 w_51=>
 bnd (K_2a K K b0 s_3 ((b0.len:Nat):Int) r_13.1 inverse_43 0 w_51) fun y_91 w_92=>
 (match y_91 with
 | .norm z_93n=>(some ((⟨none,0,0⟩,0,false,()),w_92))
 | .ret z_93r=>(some ((z_93r.1,z_93r.2.1,z_93r.2.2.1,()),w_92))))
 | .ret z_42r=>(some ((z_42r.1,z_42r.2.1,z_42r.2.2.1,()),w_41))))) else none) else none
theorem K_11u(K:Nat):StmtNOk prog [(5,.addr),(11,.int .u8),(12,.int .u8)] [(86,.bool)] [(60,87)] (fun x w=>K_cl K x.1 x.2.1 x.2.2.1 w) (cd (bodyOf f110) [1,1,1,1,1,1,0,1,0,0,1,0,0,1,1,1,1,0]):=
  K_g (O:=tabL []) (root:=(bodyOf f110)) (π:=[1,1,1,1,1,1,0,1,0,0,1,0,0,1,1,1,1,0]) (K_62 K) (K_5y K) rfl (Orc.nil _ _ _) (by kernel_rfl) (fun _ _=>by kernel_rfl)
noncomputable def K_gh (K:Nat):SE:=stmtN [(5,.addr),(11,.int .u8),(12,.int .u8)] [(86,.bool)] [(60,87)] (fun x w=>K_cl K x.1 x.2.1 x.2.2.1 w)
theorem K_j3(K:Nat)(R:Rg)(h:subRB [(60,87)] R=true):(K_gh K).Ok prog R (cd (bodyOf f110) [1,1,1,1,1,1,0,1,0,0,1,0,0,1,1,1,1,0]):=K_2 (K_11u K) (K_0 h)
theorem K_13n(K:Nat)(n:Nat):StmtOk prog [(0,.sl),(5,.addr),(7,.int .i64),(8,.sl),(9,.int .i64)] [] [(2,.sl),(3,.int .i64),(4,.bool)] [(2,5),(9,13),(32,91)] ((fun n x w=>K_1d K n x.1 x.2.1 x.2.2.1 x.2.2.2.1 x.2.2.2.2.1 w) n) (.block 0 (.loop (cd (bodyOf f110) [1,1,1,1,1,1,0,1,0,0]))):=
  K_26 (O:=tabL [([1,1,1,1,1,1,0,1,0,0,1,0,0,1,1,1,1,0],K_gh K)]) (root:=(bodyOf f110)) (π:=[1,1,1,1,1,1,0,1,0,0]) (Li:=[(0,.sl),(5,.addr),(7,.int .i64),(8,.sl),(9,.int .i64)]) (Lo:=[]) (Lr:=[(2,.sl),(3,.int .i64),(4,.bool)]) (S:=(fun n x w=>K_1d K n x.1 x.2.1 x.2.2.1 x.2.2.2.1 x.2.2.2.2.1 w)) (K_62 K) (K_5y K) rfl (Orc.cons (by kernel_rfl) (K_j3 K [(2,5),(9,13),(32,91)] (by kernel_rfl)) (Orc.nil _ _ _)) (by kernel_rfl) (fun _ _=>by kernel_rfl) (fun _ _ _=>by kernel_rfl) n
noncomputable def K_nf (K:Nat):SE:=stmt [(0,.sl),(5,.addr),(7,.int .i64),(8,.sl),(9,.int .i64)] [] [(2,.sl),(3,.int .i64),(4,.bool)] [(2,5),(9,13),(32,91)] (fun x w=>K_1d K K x.1 x.2.1 x.2.2.1 x.2.2.2.1 x.2.2.2.2.1 w)
theorem K_wn(K:Nat)(R:Rg)(h:subRB [(2,5),(9,13),(32,91)] R=true):(K_nf K).Ok prog R (.block 0 (.loop (cd (bodyOf f110) [1,1,1,1,1,1,0,1,0,0]))):=K_1o (K_13n K K) (K_0 h)
theorem K_125(K:Nat)(n:Nat):StmtNOk prog [(0,.sl),(5,.addr),(7,.int .i64),(8,.sl),(13,.addr),(14,.int .i64)] [] [(14,15),(91,106)] ((fun n x w=>K_5k K n x.1 x.2.1 x.2.2.1 x.2.2.2.1 x.2.2.2.2.1 x.2.2.2.2.2.1 w) n) (.block 2 (.loop (cd (bodyOf f110) [1,1,1,1,1,1,1,1,0,1,0,0]))):=
  K_4 (O:=tabL []) (root:=(bodyOf f110)) (π:=[1,1,1,1,1,1,1,1,0,1,0,0]) (Li:=[(0,.sl),(5,.addr),(7,.int .i64),(8,.sl),(13,.addr),(14,.int .i64)]) (Lo:=[]) (S:=(fun n x w=>K_5k K n x.1 x.2.1 x.2.2.1 x.2.2.2.1 x.2.2.2.2.1 x.2.2.2.2.2.1 w)) (K_62 K) (K_5y K) rfl (Orc.nil _ _ _) (by kernel_rfl) (fun _ _=>by kernel_rfl) (fun _ _ _=>by kernel_rfl) n
noncomputable def K_nv (K:Nat):SE:=stmtN [(0,.sl),(5,.addr),(7,.int .i64),(8,.sl),(13,.addr),(14,.int .i64)] [] [(14,15),(91,106)] (fun x w=>K_5k K K x.1 x.2.1 x.2.2.1 x.2.2.2.1 x.2.2.2.2.1 x.2.2.2.2.2.1 w)
theorem K_vs(K:Nat)(R:Rg)(h:subRB [(14,15),(91,106)] R=true):(K_nv K).Ok prog R (.block 2 (.loop (cd (bodyOf f110) [1,1,1,1,1,1,1,1,0,1,0,0]))):=K_2 (K_125 K K) (K_0 h)
theorem K_12u(K:Nat):StmtNOk prog [(5,.addr),(16,.int .u8),(18,.int .u8),(19,.int .u8),(20,.int .u8)] [(190,.bool)] [(149,191)] (fun x w=>K_cj K x.1 x.2.1 x.2.2.1 x.2.2.2.1 x.2.2.2.2.1 w) (cd (bodyOf f110) [1,1,1,1,1,1,1,1,1,0,1,0,0,1,0,0,1,1,0,0,1,0,0,1,1,1,0,0]):=
  K_g (O:=tabL []) (root:=(bodyOf f110)) (π:=[1,1,1,1,1,1,1,1,1,0,1,0,0,1,0,0,1,1,0,0,1,0,0,1,1,1,0,0]) (K_62 K) (K_5y K) rfl (Orc.nil _ _ _) (by kernel_rfl) (fun _ _=>by kernel_rfl)
noncomputable def K_bw (K:Nat):SE:=stmtN [(5,.addr),(16,.int .u8),(18,.int .u8),(19,.int .u8),(20,.int .u8)] [(190,.bool)] [(149,191)] (fun x w=>K_cj K x.1 x.2.1 x.2.2.1 x.2.2.2.1 x.2.2.2.2.1 w)
theorem K_d6(K:Nat)(R:Rg)(h:subRB [(149,191)] R=true):(K_bw K).Ok prog R (cd (bodyOf f110) [1,1,1,1,1,1,1,1,1,0,1,0,0,1,0,0,1,1,0,0,1,0,0,1,1,1,0,0]):=K_2 (K_12u K) (K_0 h)
theorem K_121(K:Nat)(n:Nat):StmtOk prog [(0,.sl),(5,.addr),(7,.int .i64),(8,.sl),(13,.addr),(15,.int .i64),(16,.int .u8),(17,.int .i64)] [] [(2,.sl),(3,.int .i64),(4,.bool)] [(2,5),(17,22),(120,213)] ((fun n x w=>K_44 K n x.1 x.2.1 x.2.2.1 x.2.2.2.1 x.2.2.2.2.1 x.2.2.2.2.2.1 x.2.2.2.2.2.2.1 x.2.2.2.2.2.2.2.1 w) n) (.block 6 (.loop (cd (bodyOf f110) [1,1,1,1,1,1,1,1,1,0,1,0,0,1,0,0,1,1,0,0]))):=
  K_26 (O:=tabL [([1,1,1,1,1,1,1,1,1,0,1,0,0,1,0,0,1,1,0,0,1,0,0,1,1,1,0,0],K_bw K)]) (root:=(bodyOf f110)) (π:=[1,1,1,1,1,1,1,1,1,0,1,0,0,1,0,0,1,1,0,0]) (Li:=[(0,.sl),(5,.addr),(7,.int .i64),(8,.sl),(13,.addr),(15,.int .i64),(16,.int .u8),(17,.int .i64)]) (Lo:=[]) (Lr:=[(2,.sl),(3,.int .i64),(4,.bool)]) (S:=(fun n x w=>K_44 K n x.1 x.2.1 x.2.2.1 x.2.2.2.1 x.2.2.2.2.1 x.2.2.2.2.2.1 x.2.2.2.2.2.2.1 x.2.2.2.2.2.2.2.1 w)) (K_62 K) (K_5y K) rfl (Orc.cons (by kernel_rfl) (K_d6 K [(2,5),(17,22),(120,213)] (by kernel_rfl)) (Orc.nil _ _ _)) (by kernel_rfl) (fun _ _=>by kernel_rfl) (fun _ _ _=>by kernel_rfl) n
noncomputable def K_gd (K:Nat):SE:=stmt [(0,.sl),(5,.addr),(7,.int .i64),(8,.sl),(13,.addr),(15,.int .i64),(16,.int .u8),(17,.int .i64)] [] [(2,.sl),(3,.int .i64),(4,.bool)] [(2,5),(17,22),(120,213)] (fun x w=>K_44 K K x.1 x.2.1 x.2.2.1 x.2.2.2.1 x.2.2.2.2.1 x.2.2.2.2.2.1 x.2.2.2.2.2.2.1 x.2.2.2.2.2.2.2.1 w)
theorem K_im(K:Nat)(R:Rg)(h:subRB [(2,5),(17,22),(120,213)] R=true):(K_gd K).Ok prog R (.block 6 (.loop (cd (bodyOf f110) [1,1,1,1,1,1,1,1,1,0,1,0,0,1,0,0,1,1,0,0]))):=K_1o (K_121 K K) (K_0 h)
theorem K_138(K:Nat)(n:Nat):StmtOk prog [(0,.sl),(5,.addr),(7,.int .i64),(8,.sl),(13,.addr),(15,.int .i64)] [] [(2,.sl),(3,.int .i64),(4,.bool)] [(2,5),(15,22),(106,213)] ((fun n x w=>K_2a K n x.1 x.2.1 x.2.2.1 x.2.2.2.1 x.2.2.2.2.1 x.2.2.2.2.2.1 w) n) (.block 4 (.loop (cd (bodyOf f110) [1,1,1,1,1,1,1,1,1,0,1,0,0]))):=
  K_26 (O:=tabL [([1,1,1,1,1,1,1,1,1,0,1,0,0,1,0,0,1,1],K_gd K),([1,1,1,1,1,1,1,1,1,0,1,0,0,1,0,0,1,1,0,0,1,0,0,1,1,1,0,0],K_bw K)]) (root:=(bodyOf f110)) (π:=[1,1,1,1,1,1,1,1,1,0,1,0,0]) (Li:=[(0,.sl),(5,.addr),(7,.int .i64),(8,.sl),(13,.addr),(15,.int .i64)]) (Lo:=[]) (Lr:=[(2,.sl),(3,.int .i64),(4,.bool)]) (S:=(fun n x w=>K_2a K n x.1 x.2.1 x.2.2.1 x.2.2.2.1 x.2.2.2.2.1 x.2.2.2.2.2.1 w)) (K_62 K) (K_5y K) rfl (Orc.cons (by kernel_rfl) (K_im K [(2,5),(15,22),(106,213)] (by kernel_rfl)) (Orc.cons (by kernel_rfl) (K_d6 K [(2,5),(15,22),(106,213)] (by kernel_rfl)) (Orc.nil _ _ _))) (by kernel_rfl) (fun _ _=>by kernel_rfl) (fun _ _ _=>by kernel_rfl) n
noncomputable def K_ni (K:Nat):SE:=stmt [(0,.sl),(5,.addr),(7,.int .i64),(8,.sl),(13,.addr),(15,.int .i64)] [] [(2,.sl),(3,.int .i64),(4,.bool)] [(2,5),(15,22),(106,213)] (fun x w=>K_2a K K x.1 x.2.1 x.2.2.1 x.2.2.2.1 x.2.2.2.2.1 x.2.2.2.2.2.1 w)
theorem K_w4(K:Nat)(R:Rg)(h:subRB [(2,5),(15,22),(106,213)] R=true):(K_ni K).Ok prog R (.block 4 (.loop (cd (bodyOf f110) [1,1,1,1,1,1,1,1,1,0,1,0,0]))):=K_1o (K_138 K K) (K_0 h)
theorem K_oc:FunFacts prog 110 f110 (bodyOf f110) [(0,.sl)] [(0,213)]:=⟨func110,by kernel_rfl,by kernel_rfl,by kernel_rfl,by kernel_rfl,by kernel_rfl⟩
theorem K_12o(K:Nat)(x:TT [(0,.sl)])(w:World)(y:TR [.sl,.int .i64,.bool])(w2:World)(h:K_ev K x.1 w=some (y,w2)):Calls prog 110 (encA [(0,.sl)] x).toArray w (fun e w3=>e= .returned (resV (encR [.sl,.int .i64,.bool] y))∧w3=w2):=
  K_b (O:=tabL [([1,1,1,1,1,1,0,1],K_nf K),([1,1,1,1,1,1,0,1,0,0,1,0,0,1,1,1,1,0],K_gh K),([1,1,1,1,1,1,1,1,0,1],K_nv K),([1,1,1,1,1,1,1,1,1,0,1],K_ni K),([1,1,1,1,1,1,1,1,1,0,1,0,0,1,0,0,1,1],K_gd K),([1,1,1,1,1,1,1,1,1,0,1,0,0,1,0,0,1,1,0,0,1,0,0,1,1,1,0,0],K_bw K)]) (Lp:=[(0,.sl)]) (Rt:=[.sl,.int .i64,.bool]) (S:=(fun x w=>K_ev K x.1 w)) (K_62 K) (K_5y K) rfl K_oc (Orc.cons (by kernel_rfl) (K_wn K [(0,213)] (by kernel_rfl)) (Orc.cons (by kernel_rfl) (K_j3 K [(0,213)] (by kernel_rfl)) (Orc.cons (by kernel_rfl) (K_vs K [(0,213)] (by kernel_rfl)) (Orc.cons (by kernel_rfl) (K_w4 K [(0,213)] (by kernel_rfl)) (Orc.cons (by kernel_rfl) (K_im K [(0,213)] (by kernel_rfl)) (Orc.cons (by kernel_rfl) (K_d6 K [(0,213)] (by kernel_rfl)) (Orc.nil _ _ _))))))) (fun _ _=>by kernel_rfl) x w y w2 h
noncomputable def K_vk (K:Nat):CE:=funE [(0,.sl)] [.sl,.int .i64,.bool] (fun x w=>K_ev K x.1 w)
theorem K_19a(K:Nat):(K_vk K).Ok prog 110:=K_8 K_oc fun x w y w2 h=>K_12o K x w y w2 h
end Go.Sh

namespace Go.Sh
open Go.Fw Go.Proofs.Tryd
noncomputable def K_1c5:List (Nat×CE):=[]
theorem K_az:Env.Ok prog (tab (K_1c5)):=(Env.nil _)
noncomputable def K_1br:List (Nat×RE):=[]
theorem K_aw:REnv.Ok prog (tab (K_1br)):=(REnv.nil _)
noncomputable def K_ch (b0:Sl) (w:World):Option ((Addr×Unit)×World):=
 (b0.a).bind fun p_6=>
 if (0:Int)≤0∧0<((b0.len:Nat):Int) then((b0.a).bind fun p_7=>
 if (0:Int)≤1∧1<((b0.len:Nat):Int) then((b0.a).bind fun p_8=>
 if (0:Int)≤2∧2<((b0.len:Nat):Int) then((b0.a).bind fun p_9=>
 if (0:Int)≤3∧3<((b0.len:Nat):Int) then((b0.a).bind fun p_10=>
 if (0:Int)≤4∧4<((b0.len:Nat):Int) then((ldI .u8 (p_6.add (0*1)) w.drew).bind fun v_11=>
 (ldI .u8 (p_7.add (1*1)) w.drew).bind fun v_12=>
 (ldI .u8 (p_8.add (2*1)) w.drew).bind fun v_13=>
 (ldI .u8 (p_9.add (3*1)) w.drew).bind fun v_14=>
 (ldI .u8 (p_10.add (4*1)) w.drew).bind fun v_15=>
 (prog.built 84 [(0,(.int .u16 (IntKind.u16.wrap ((IntKind.u16.wrap ((IntKind.u16.wrap v_11)*256))+(IntKind.u16.wrap v_12))))),(1,(.int .i64 (IntKind.i64.wrap v_13))),(2,(.int .i64 (IntKind.i64.wrap v_14))),(3,(.int .i64 (IntKind.i64.wrap v_15)))]).bind fun cs_16=>
 bnd (newB z84 84 w.drew) fun s_17 w_18=>
 (ldI .u8 (p_10.add (4*1)) w_18).bind fun v_19=>
 sameK (.int .u8 v_15) (.int .u8 v_19) ((ldI .u8 (p_9.add (3*1)) w_18).bind fun v_20=>
 sameK (.int .u8 v_14) (.int .u8 v_20) ((ldI .u8 (p_8.add (2*1)) w_18).bind fun v_21=>
 sameK (.int .u8 v_13) (.int .u8 v_21) ((ldI .u8 (p_7.add (1*1)) w_18).bind fun v_22=>
 sameK (.int .u8 v_12) (.int .u8 v_22) ((ldI .u8 (p_6.add (0*1)) w_18).bind fun v_23=>
 sameK (.int .u8 v_11) (.int .u8 v_23) (if (cs_16).size=4 then((stA s_17 cs_16 w_18).bind fun w_24=>
 (ldI .u8 (p_10.add (4*1)) w_24).bind fun v_25=>
 sameK (.int .u8 v_15) (.int .u8 v_25) ((ldI .u8 (p_9.add (3*1)) w_24).bind fun v_26=>
 sameK (.int .u8 v_14) (.int .u8 v_26) ((ldI .u8 (p_8.add (2*1)) w_24).bind fun v_27=>
 sameK (.int .u8 v_13) (.int .u8 v_27) ((ldI .u8 (p_7.add (1*1)) w_24).bind fun v_28=>
 sameK (.int .u8 v_12) (.int .u8 v_28) ((ldI .u8 (p_6.add (0*1)) w_24).bind fun v_29=>
 sameK (.int .u8 v_11) (.int .u8 v_29) (some ((s_17,()),w_24))))))) else none)))))) else none) else none) else none) else none) else none
noncomputable def K_ci (l7:Int) (a43:Bool) (w:World):Option ((Int×Unit)×World):=
 if a43=true then(some (((IntKind.i64.wrap (l7+1)),()),w)) else(some ((l7,()),w))
noncomputable def K_cn (b0:Sl) (s5:Addr) (n6:Int) (l7:Int) (w:World):Option ((Bool×Unit)×World):=
 (ldI .i64 (s5.add 1) w).bind fun v_35=>
 if (decide (v_35<1))=true then(some ((true,()),w)) else((ldI .i64 (s5.add 1) w).bind fun v_36=>
 if (decide (v_36 > 16))=true then(some ((true,()),w)) else((ldI .i64 (s5.add 2) w).bind fun v_37=>
 if (decide (v_37<1))=true then(some ((true,()),w)) else((ldI .i64 (s5.add 3) w).bind fun v_38=>
 if (decide (v_38<1))=true then(some ((true,()),w)) else((ldI .i64 (s5.add 3) w).bind fun v_39=>
 if (decide (v_39 > 64))=true then(some ((true,()),w)) else(if (l7 != ((b0.len:Nat):Int))=true then(some ((true,()),w)) else(if ((Int.tmod (IntKind.i64.wrap (5+n6)) 2) == 1)=true then((b0.a).bind fun p_40=>
 if (0:Int)≤(IntKind.i64.wrap (5+n6))∧(IntKind.i64.wrap (5+n6))<((b0.len:Nat):Int) then((ldI .u8 (p_40.add ((Int.toNat (IntKind.i64.wrap (5+n6)))*1)) w).bind fun v_41=>
 some (((v_41 != 0),()),w)) else none) else(some ((false,()),w))))))))
noncomputable def K_g6 (b0:Sl) (a2:Addr) (a3:Sl) (a4:Bool) (s5:Addr) (n6:Int) (w:World):Option ((Sl×Bool×Unit)×World):=
 if (0:Int)≤(IntKind.i64.wrap (5+n6))∧(IntKind.i64.wrap (5+n6))≤((b0.cap:Nat):Int) then(if (0:Int)≤5∧5≤(((Int.toNat ((IntKind.i64.wrap (5+n6)))):Nat):Int) then((ldA 4 s5 w.drew).bind fun v_47=>
 bnd (bldS prog 23 0 #[] w.drew) fun s_48 w_49=>
 (ldA 4 s5 w_49).bind fun v_50=>
 sameK (.agg v_47) (.agg v_50) (bnd (apd prog 23 23 (.slice s_48.a s_48.len s_48.cap) (.slice (sla b0.a 5 b0.cap 1) ((Int.toNat ((IntKind.i64.wrap (5+n6)))) - 5) (b0.cap - 5)) w_49) fun s_51 w_52=>
 (ldA 4 s5 w_52).bind fun v_53=>
 sameK (.agg v_47) (.agg v_53) (if (v_47).size=4 then((stA a2 v_47 w_52).bind fun w_54=>
 (ldA 4 s5 w_54).bind fun v_55=>
 sameK (.agg v_47) (.agg v_55) (some ((s_51,true,()),w_54))) else none))) else none) else none
noncomputable def K_em (b0:Sl) (w:World):Option (((Array Value)×Sl×Bool×Unit)×World):=
 bnd (newB z84 84 w) fun p_1 w_2=>
 if (decide (((b0.len:Nat):Int)<14))=true then((prog.built 84 []).bind fun cs_3=>
 if (cs_3).size=4 then((stA p_1 cs_3 w_2).bind fun w_4=>
 (ldA 4 p_1 w_4).bind fun res_5=>
 some ((res_5,⟨none,0,0⟩,false,()),w_4)) else none) else(bnd (K_ch b0 w_2) fun y_30 w_31=>
 (ldI .i64 (y_30.1.add 3) w_31).bind fun v_32=>
 bnd (K_ci (IntKind.i64.wrap ((IntKind.i64.wrap (5+(IntKind.i64.wrap (v_32+4))))+4)) ((Int.tmod (IntKind.i64.wrap ((IntKind.i64.wrap (5+(IntKind.i64.wrap (v_32+4))))+4)) 2) == 1) w_31) fun y_33 w_34=>
 bnd (K_cn b0 y_30.1 (IntKind.i64.wrap (v_32+4)) y_33.1 w_34) fun y_42 w_43=>
 if y_42.1=true then((prog.built 84 []).bind fun cs_44=>
 if (cs_44).size=4 then((stA p_1 cs_44 w_43).bind fun w_45=>
 (ldA 4 p_1 w_45).bind fun res_46=>
 some ((res_46,⟨none,0,0⟩,false,()),w_45)) else none) else(bnd (K_g6 b0 p_1 ⟨none,0,0⟩ false y_30.1 (IntKind.i64.wrap (v_32+4)) w_43) fun y_56 w_57=>
 (ldA 4 p_1 w_57).bind fun res_58=>
 some ((res_58,y_56.1,y_56.2.1,()),w_57)))
theorem K_129:StmtNOk prog [(0,.sl)] [(5,.addr)] [(5,6),(12,35)] (fun x w=>K_ch x.1 w) (cd (bodyOf f111) [1,1,0]):=
  K_ab (K_az) (K_aw) rfl (fun _ _=>by kernel_rfl)
noncomputable def K_oi:SE:=stmtN [(0,.sl)] [(5,.addr)] [(5,6),(12,35)] (fun x w=>K_ch x.1 w)
theorem K_vw(R:Rg)(h:subRB [(5,6),(12,35)] R=true):(K_oi).Ok prog R (cd (bodyOf f111) [1,1,0]):=K_2 (K_129) (K_0 h)
theorem K_12s:StmtNOk prog [(7,.int .i64),(43,.bool)] [(7,.int .i64)] [(7,8),(44,46)] (fun x w=>K_ci x.1 x.2.1 w) (cd (bodyOf f111) [1,1,1,1,1,0,1]):=
  K_g (O:=tabL []) (root:=(bodyOf f111)) (π:=[1,1,1,1,1,0,1]) (K_az) (K_aw) rfl (Orc.nil _ _ _) (by kernel_rfl) (fun _ _=>by kernel_rfl)
noncomputable def K_na:SE:=stmtN [(7,.int .i64),(43,.bool)] [(7,.int .i64)] [(7,8),(44,46)] (fun x w=>K_ci x.1 x.2.1 w)
theorem K_wa(R:Rg)(h:subRB [(7,8),(44,46)] R=true):(K_na).Ok prog R (cd (bodyOf f111) [1,1,1,1,1,0,1]):=K_2 (K_12s) (K_0 h)
theorem K_13g:StmtNOk prog [(0,.sl),(5,.addr),(6,.int .i64),(7,.int .i64)] [(88,.bool)] [(46,89)] (fun x w=>K_cn x.1 x.2.1 x.2.2.1 x.2.2.2.1 w) (cd (bodyOf f111) [1,1,1,1,1,1,0,0]):=
  K_g (O:=tabL []) (root:=(bodyOf f111)) (π:=[1,1,1,1,1,1,0,0]) (K_az) (K_aw) rfl (Orc.nil _ _ _) (by kernel_rfl) (fun _ _=>by kernel_rfl)
noncomputable def K_o7:SE:=stmtN [(0,.sl),(5,.addr),(6,.int .i64),(7,.int .i64)] [(88,.bool)] [(46,89)] (fun x w=>K_cn x.1 x.2.1 x.2.2.1 x.2.2.2.1 w)
theorem K_ww(R:Rg)(h:subRB [(46,89)] R=true):(K_o7).Ok prog R (cd (bodyOf f111) [1,1,1,1,1,1,0,0]):=K_2 (K_13g) (K_0 h)
theorem K_13o:StmtNOk prog [(0,.sl),(2,.addr),(3,.sl),(4,.bool),(5,.addr),(6,.int .i64)] [(3,.sl),(4,.bool)] [(3,5),(90,97)] (fun x w=>K_g6 x.1 x.2.1 x.2.2.1 x.2.2.2.1 x.2.2.2.2.1 x.2.2.2.2.2.1 w) (cd (bodyOf f111) [1,1,1,1,1,1,1,0]):=
  K_ab (K_az) (K_aw) rfl (fun _ _=>by kernel_rfl)
noncomputable def K_ny:SE:=stmtN [(0,.sl),(2,.addr),(3,.sl),(4,.bool),(5,.addr),(6,.int .i64)] [(3,.sl),(4,.bool)] [(3,5),(90,97)] (fun x w=>K_g6 x.1 x.2.1 x.2.2.1 x.2.2.2.1 x.2.2.2.2.1 x.2.2.2.2.2.1 w)
theorem K_wo(R:Rg)(h:subRB [(3,5),(90,97)] R=true):(K_ny).Ok prog R (cd (bodyOf f111) [1,1,1,1,1,1,1,0]):=K_2 (K_13o) (K_0 h)
theorem K_oo:FunFacts prog 111 f111 (bodyOf f111) [(0,.sl)] [(0,97)]:=⟨func111,by kernel_rfl,by kernel_rfl,by kernel_rfl,by kernel_rfl,by kernel_rfl⟩
theorem K_11o(x:TT [(0,.sl)])(w:World)(y:TR [.agg,.sl,.bool])(w2:World)(h:K_em x.1 w=some (y,w2)):Calls prog 111 (encA [(0,.sl)] x).toArray w (fun e w3=>e= .returned (resV (encR [.agg,.sl,.bool] y))∧w3=w2):=
  K_b (O:=tabL [([1,1,0],K_oi),([1,1,1,1,1,0,1],K_na),([1,1,1,1,1,1,0,0],K_o7),([1,1,1,1,1,1,1,0],K_ny)]) (Lp:=[(0,.sl)]) (Rt:=[.agg,.sl,.bool]) (S:=(fun x w=>K_em x.1 w)) (K_az) (K_aw) rfl K_oo (Orc.cons (by kernel_rfl) (K_vw [(0,97)] (by kernel_rfl)) (Orc.cons (by kernel_rfl) (K_wa [(0,97)] (by kernel_rfl)) (Orc.cons (by kernel_rfl) (K_ww [(0,97)] (by kernel_rfl)) (Orc.cons (by kernel_rfl) (K_wo [(0,97)] (by kernel_rfl)) (Orc.nil _ _ _))))) (fun _ _=>by kernel_rfl) x w y w2 h
noncomputable def K_vf:CE:=funE [(0,.sl)] [.agg,.sl,.bool] (fun x w=>K_em x.1 w)
theorem K_18v:(K_vf).Ok prog 111:=K_8 K_oo fun x w y w2 h=>K_11o x w y w2 h
noncomputable def K_1bd (K:Nat):List (Nat×CE):=[(109,K_v8 K),(110,K_vk K),(111,K_vf)]
theorem K_sg(K:Nat):Env.Ok prog (tab (K_1bd K)):=(Env.cons (K_19r K) (Env.cons (K_19a K) (Env.cons (K_18v) (Env.nil _))))
noncomputable def K_1as (K:Nat):List (Nat×RE):=[]
theorem K_rr(K:Nat):REnv.Ok prog (tab (K_1as K)):=(REnv.nil _)
noncomputable def K_cm (K:Nat) (b4:Sl) (w:World):Option ((Bool×Unit)×World):=
 if (decide (((b4.len:Nat):Int)<14))=true then(some ((true,()),w)) else(some (((decide (((b4.len:Nat):Int) > 78)),()),w))
noncomputable def K_eq (K:Nat) (s0:ByteArray) (w:World):Option (((Array Value)×Int×Unit)×World):=
 bnd (newB z105 105 w) fun p_1 w_2=>
 if (decide (((s0.size:Nat):Int) > 1024))=true then((prog.built 105 []).bind fun cs_3=>
 if (cs_3).size=6 then((stA p_1 cs_3 w_2).bind fun w_4=>
 (ldA 6 p_1 w_4).bind fun res_5=>
 some ((res_5,4,()),w_4)) else none) else(bnd (K_ey K s0 w_2) fun r_6 w_7=>
 if (!r_6.2.1)=true then((prog.built 105 []).bind fun cs_8=>
 if (cs_8).size=6 then((stA p_1 cs_8 w_7).bind fun w_9=>
 (ldA 6 p_1 w_9).bind fun res_10=>
 some ((res_10,112,()),w_9)) else none) else(bnd (K_cm K r_6.1 w_7) fun y_11 w_12=>
 if y_11.1=true then((prog.built 105 []).bind fun cs_13=>
 if (cs_13).size=6 then((stA p_1 cs_13 w_12).bind fun w_14=>
 (ldA 6 p_1 w_14).bind fun res_15=>
 some ((res_15,113,()),w_14)) else none) else(bnd (K_ev K r_6.1 w_12) fun r_16 w_17=>
 if (!r_16.2.2.1)=true then((prog.built 105 []).bind fun cs_18=>
 if (cs_18).size=6 then((stA p_1 cs_18 w_17).bind fun w_19=>
 (ldA 6 p_1 w_19).bind fun res_20=>
 some ((res_20,113,()),w_19)) else none) else(bnd (K_em r_16.1 w_17) fun r_21 w_22=>
 bnd (newB z84 84 w_22) fun share_23 w_24=>
 if (r_21.1).size=4 then((stA share_23 r_21.1 w_24).bind fun w_25=>
 if (!r_21.2.2.1)=true then((prog.built 105 []).bind fun cs_26=>
 if (cs_26).size=6 then((stA p_1 cs_26 w_25).bind fun w_27=>
 (ldA 6 p_1 w_27).bind fun res_28=>
 some ((res_28,113,()),w_27)) else none) else((ldA 4 share_23 w_25).bind fun v_29=>
 (prog.built 105 [(0,(.agg v_29)),(1,(.slice r_21.2.1.a r_21.2.1.len r_21.2.1.cap)),(2,(.int .i64 r_16.2.1))]).bind fun cs_30=>
 if (cs_30).size=6 then((stA p_1 cs_30 w_25).bind fun w_31=>
 (ldA 6 p_1 w_31).bind fun res_32=>
 some ((res_32,0,()),w_31)) else none)) else none))))
theorem K_13h(K:Nat):StmtNOk prog [(4,.sl)] [(31,.bool)] [(24,32)] (fun x w=>K_cm K x.1 w) (cd (bodyOf f83) [1,1,1,1,0,0]):=
  K_g (O:=tabL []) (root:=(bodyOf f83)) (π:=[1,1,1,1,0,0]) (K_sg K) (K_rr K) rfl (Orc.nil _ _ _) (by kernel_rfl) (fun _ _=>by kernel_rfl)
noncomputable def K_n9 (K:Nat):SE:=stmtN [(4,.sl)] [(31,.bool)] [(24,32)] (fun x w=>K_cm K x.1 w)
theorem K_x6(K:Nat)(R:Rg)(h:subRB [(24,32)] R=true):(K_n9 K).Ok prog R (cd (bodyOf f83) [1,1,1,1,0,0]):=K_2 (K_13h K) (K_0 h)
theorem K_nm:FunFacts prog 83 f83 (bodyOf f83) [(0,.str)] [(0,55)]:=⟨func83,by kernel_rfl,by kernel_rfl,by kernel_rfl,by kernel_rfl,by kernel_rfl⟩
theorem K_139(K:Nat)(x:TT [(0,.str)])(w:World)(y:TR [.agg,.int .i64])(w2:World)(h:K_eq K x.1 w=some (y,w2)):Calls prog 83 (encA [(0,.str)] x).toArray w (fun e w3=>e= .returned (resV (encR [.agg,.int .i64] y))∧w3=w2):=
  K_b (O:=tabL [([1,1,1,1,0,0],K_n9 K)]) (Lp:=[(0,.str)]) (Rt:=[.agg,.int .i64]) (S:=(fun x w=>K_eq K x.1 w)) (K_sg K) (K_rr K) rfl K_nm (Orc.cons (by kernel_rfl) (K_x6 K [(0,55)] (by kernel_rfl)) (Orc.nil _ _ _)) (fun _ _=>by kernel_rfl) x w y w2 h
noncomputable def K_vg (K:Nat):CE:=funE [(0,.str)] [.agg,.int .i64] (fun x w=>K_eq K x.1 w)
theorem K_18z(K:Nat):(K_vg K).Ok prog 83:=K_8 K_nm fun x w y w2 h=>K_139 K x w y w2 h
noncomputable def K_15u (K:Nat):List (Nat×CE):=[(83,K_vg K),(84,K_jr K),(47,K_y2 K)]
theorem K_1k(K:Nat):Env.Ok prog (tab (K_15u K)):=(Env.cons (K_18z K) (Env.cons (K_sq K) (Env.cons (K_1av K) (Env.nil _))))
noncomputable def K_16r (K:Nat):List (Nat×RE):=[(77,K_jl K)]
theorem K_1l(K:Nat):REnv.Ok prog (tab (K_16r K)):=(REnv.cons (K_r5 K) (REnv.nil _))
noncomputable def K_7v (K:Nat) (rec:Sl→Addr→Sl→Int→World→Option ((Out (Sl×Unit) (Sl×Addr×Int×Unit))×World)) (shares0:Sl) (a3:Addr) (all5:Sl) (i6:Int) (w:World):Option ((Out (Sl×Unit) (Sl×Addr×Int×Unit))×World):=
 if (decide (i6<((shares0.len:Nat):Int)))=true then((shares0.a).bind fun p_3=>
 if (0:Int)≤i6∧i6<((shares0.len:Nat):Int) then((ldStr (p_3.add ((Int.toNat i6)*1)) w).bind fun v_4=>
 bnd (K_eq K v_4 w) fun r_5 w_6=>
 bnd (newB z105 105 w_6) fun p_7 w_8=>
 if (r_5.1).size=6 then((stA p_7 r_5.1 w_8).bind fun w_9=>
 if (r_5.2.1 != 0)=true then((prog.built 105 []).bind fun cs_10=>
 if (cs_10).size=6 then((stA a3 cs_10 w_9).bind fun w_11=>
 some (.ret (⟨none,0,0⟩,a3,r_5.2.1,()),w_11)) else none) else((ldA 6 p_7 w_9).bind fun v_12=>
 bnd (bldS prog 129 1 #[(0,(.agg v_12))] w_9) fun s_13 w_14=>
 bnd (apd prog 129 129 (.slice all5.a all5.len all5.cap) (.slice s_13.a s_13.len s_13.cap) w_14) fun s_15 w_16=>
 rec shares0 a3 s_15 (IntKind.i64.wrap (i6+1)) w_16)) else none) else none) else(some (.norm (all5,()),w))
noncomputable def K_r (K:Nat) (n:Nat):Sl→Addr→Sl→Int→World→Option ((Out (Sl×Unit) (Sl×Addr×Int×Unit))×World):=iter (fun _ _ _ _ _=>none) (K_7v K) n
noncomputable def K_a9 (K:Nat) (first9:Addr) (s11:Addr) (w:World):Option ((Bool×Unit)×World):=
 (ldI .u16 (s11.add 0) w).bind fun v_33=>
 (ldI .u16 ((first9.add 0).add 0) w).bind fun v_34=>
 if (v_33 != v_34)=true then(some ((true,()),w)) else((ldI .i64 (s11.add 1) w).bind fun v_35=>
 (ldI .i64 ((first9.add 0).add 1) w).bind fun v_36=>
 if (v_35 != v_36)=true then(some ((true,()),w)) else((ldI .i64 (s11.add 3) w).bind fun v_37=>
 (ldI .i64 ((first9.add 0).add 3) w).bind fun v_38=>
 some (((v_37 != v_38),()),w)))
noncomputable def K_7i (K:Nat) (rec:Addr→Sl→Addr→Int→World→Option ((Out (Unit) (Sl×Addr×Int×Unit))×World)) (a3:Addr) (all5:Sl) (first9:Addr) (i10:Int) (w:World):Option ((Out (Unit) (Sl×Addr×Int×Unit))×World):=
 if (decide (i10<((all5.len:Nat):Int)))=true then((all5.a).bind fun p_28=>
 if (0:Int)≤i10∧i10<((all5.len:Nat):Int) then((ldA 4 ((p_28.add ((Int.toNat i10)*6)).add 0) w).bind fun v_29=>
 bnd (newB z84 84 w) fun s_30 w_31=>
 if (v_29).size=4 then((stA s_30 v_29 w_31).bind fun w_32=>
 bnd (K_a9 K first9 s_30 w_32) fun y_39 w_40=>
 if y_39.1=true then((prog.built 105 []).bind fun cs_41=>
 if (cs_41).size=6 then((stA a3 cs_41 w_40).bind fun w_42=>
 some (.ret (⟨none,0,0⟩,a3,115,()),w_42)) else none) else(rec a3 all5 first9 (IntKind.i64.wrap (i10+1)) w_40)) else none) else none) else(some (.norm (),w))
noncomputable def K_20 (K:Nat) (n:Nat):Addr→Sl→Addr→Int→World→Option ((Out (Unit) (Sl×Addr×Int×Unit))×World):=iter (fun _ _ _ _ _=>none) (K_7i K) n
noncomputable def K_7k (K:Nat) (rec:Addr→Sl→Addr→Sl→Int→Bool→Int→World→Option ((Out (Bool×Unit) (Sl×Addr×Int×Unit))×World)) (a3:Addr) (all5:Sl) (first9:Addr) (own12:Sl) (i13:Int) (fresh14:Bool) (k15:Int) (w:World):Option ((Out (Bool×Unit) (Sl×Addr×Int×Unit))×World):=
 if (decide (k15<i13))=true then((all5.a).bind fun p_46=>
 if (0:Int)≤k15∧k15<((all5.len:Nat):Int) then((all5.a).bind fun p_47=>
 if (0:Int)≤i13∧i13<((all5.len:Nat):Int) then((ldI .i64 (((p_46.add ((Int.toNat k15)*6)).add 0).add 2) w.drew).bind fun v_48=>
 (ldI .i64 (((p_47.add ((Int.toNat i13)*6)).add 0).add 2) w.drew).bind fun v_49=>
 if (v_48 == v_49)=true then((all5.a).bind fun p_50=>
 if (0:Int)≤k15∧k15<((all5.len:Nat):Int) then((all5.a).bind fun p_51=>
 if (0:Int)≤i13∧i13<((all5.len:Nat):Int) then((ldS ((p_50.add ((Int.toNat k15)*6)).add 4) w.drew.drew).bind fun v_52=>
 (b2sQ prog v_52.a v_52.len v_52.cap w.drew.drew).bind fun c_53=>
 (ldS ((p_51.add ((Int.toNat i13)*6)).add 4) w.drew.drew).bind fun v_54=>
 (b2sQ prog v_54.a v_54.len v_54.cap w.drew.drew).bind fun c_55=>
 if (!(c_53.toList == c_55.toList))=true then((prog.built 105 []).bind fun cs_56=>
 if (cs_56).size=6 then((stA a3 cs_56 w.drew.drew).bind fun w_57=>
 some (.ret (⟨none,0,0⟩,a3,116,()),w_57)) else none) else(rec a3 all5 first9 own12 i13 false (IntKind.i64.wrap (k15+1)) w.drew.drew)) else none) else none) else(rec a3 all5 first9 own12 i13 fresh14 (IntKind.i64.wrap (k15+1)) w.drew)) else none) else none) else(some (.norm (fresh14,()),w))
noncomputable def K_1z (K:Nat) (n:Nat):Addr→Sl→Addr→Sl→Int→Bool→Int→World→Option ((Out (Bool×Unit) (Sl×Addr×Int×Unit))×World):=iter (fun _ _ _ _ _ _ _ _=>none) (K_7k K) n
noncomputable def K_79 (K:Nat) (rec:Addr→Sl→Addr→Sl→Int→World→Option ((Out (Sl×Unit) (Sl×Addr×Int×Unit))×World)) (a3:Addr) (all5:Sl) (first9:Addr) (own12:Sl) (i13:Int) (w:World):Option ((Out (Sl×Unit) (Sl×Addr×Int×Unit))×World):=
 if (decide (i13<((all5.len:Nat):Int)))=true then(bnd (K_1z K K a3 all5 first9 own12 i13 true 0 w) fun y_58 w_59=>
 (match y_58 with
 | .norm z_60n=>(if z_60n.1=true then((all5.a).bind fun p_61=>
 if (0:Int)≤i13∧i13<((all5.len:Nat):Int) then((ldA 6 (p_61.add ((Int.toNat i13)*6)) w_59).bind fun v_62=>
 bnd (bldS prog 129 1 #[(0,(.agg v_62))] w_59) fun s_63 w_64=>
 bnd (apd prog 129 129 (.slice own12.a own12.len own12.cap) (.slice s_63.a s_63.len s_63.cap) w_64) fun s_65 w_66=>
 rec a3 all5 first9 s_65 (IntKind.i64.wrap (i13+1)) w_66) else none) else(rec a3 all5 first9 own12 (IntKind.i64.wrap (i13+1)) w_59))
 | .ret z_60r=>(some (.ret (z_60r.1,z_60r.2.1,z_60r.2.2.1,()),w_59)))) else(some (.norm (own12,()),w))
noncomputable def K_x (K:Nat) (n:Nat):Addr→Sl→Addr→Sl→Int→World→Option ((Out (Sl×Unit) (Sl×Addr×Int×Unit))×World):=iter (fun _ _ _ _ _ _=>none) (K_79 K) n
noncomputable def K_7j (K:Nat) (rec:Addr→Addr→Sl→Int→Sl→Sl→Int→Sl→Int→Sl→Int→World→Option ((Sl×Unit)×World)) (a3:Addr) (first9:Addr) (own12:Sl) (need16:Int) (out17:Sl) (t18:Sl) (v19:Int) (m20:Sl) (i21:Int) (r22:Sl) (j23:Int) (w:World):Option ((Sl×Unit)×World):=
 if (decide (j23<need16))=true then((own12.a).bind fun p_75=>
 if (0:Int)≤i21∧i21<((own12.len:Nat):Int) then((ldI .i64 (((p_75.add ((Int.toNat i21)*6)).add 0).add 2) w).bind fun v_76=>
 (K_ak K (IntKind.u8.wrap v_76) j23).bind fun r_77=>
 bnd (bldS prog 23 1 #[(0,(.int .u8 r_77.1))] w) fun s_78 w_79=>
 bnd (apd prog 23 23 (.slice r22.a r22.len r22.cap) (.slice s_78.a s_78.len s_78.cap) w_79) fun s_80 w_81=>
 rec a3 first9 own12 need16 out17 t18 v19 m20 i21 s_80 (IntKind.i64.wrap (j23+1)) w_81) else none) else(some ((r22,()),w))
noncomputable def K_3m (K:Nat) (n:Nat):Addr→Addr→Sl→Int→Sl→Sl→Int→Sl→Int→Sl→Int→World→Option ((Sl×Unit)×World):=iter (fun _ _ _ _ _ _ _ _ _ _ _ _=>none) (K_7j K) n
noncomputable def K_7d (K:Nat) (rec:Addr→Addr→Sl→Int→Sl→Sl→Int→Sl→Int→World→Option ((Sl×Unit)×World)) (a3:Addr) (first9:Addr) (own12:Sl) (need16:Int) (out17:Sl) (t18:Sl) (v19:Int) (m20:Sl) (i21:Int) (w:World):Option ((Sl×Unit)×World):=
 if (decide (i21<((own12.len:Nat):Int)))=true then(bnd (K_3m K K a3 first9 own12 need16 out17 t18 v19 m20 i21 ⟨none,0,0⟩ 0 w) fun y_82 w_83=>
 (own12.a).bind fun p_84=>
 if (0:Int)≤i21∧i21<((own12.len:Nat):Int) then((ldS ((p_84.add ((Int.toNat i21)*6)).add 4) w_83).bind fun v_85=>
 (v_85.a).bind fun p_86=>
 if (0:Int)≤v19∧v19<((v_85.len:Nat):Int) then((ldI .u8 (p_86.add ((Int.toNat v19)*1)) w_83).bind fun v_87=>
 bnd (bldS prog 23 1 #[(0,(.int .u8 v_87))] w_83) fun s_88 w_89=>
 bnd (apd prog 23 23 (.slice y_82.1.a y_82.1.len y_82.1.cap) (.slice s_88.a s_88.len s_88.cap) w_89) fun s_90 w_91=>
 bnd (bldS prog 67 1 #[(0,(.slice s_90.a s_90.len s_90.cap))] w_91) fun s_92 w_93=>
 bnd (apd prog 67 67 (.slice m20.a m20.len m20.cap) (.slice s_92.a s_92.len s_92.cap) w_93) fun s_94 w_95=>
 rec a3 first9 own12 need16 out17 t18 v19 s_94 (IntKind.i64.wrap (i21+1)) w_95) else none) else none) else(some ((m20,()),w))
noncomputable def K_3x (K:Nat) (n:Nat):Addr→Addr→Sl→Int→Sl→Sl→Int→Sl→Int→World→Option ((Sl×Unit)×World):=iter (fun _ _ _ _ _ _ _ _ _ _=>none) (K_7d K) n
noncomputable def K_7p (K:Nat) (rec:Addr→Addr→Sl→Int→Sl→Sl→Int→World→Option ((Out (Sl×Sl×Unit) (Sl×Addr×Int×Unit))×World)) (a3:Addr) (first9:Addr) (own12:Sl) (need16:Int) (out17:Sl) (t18:Sl) (v19:Int) (w:World):Option ((Out (Sl×Sl×Unit) (Sl×Addr×Int×Unit))×World):=
 (ldS (first9.add 4) w).bind fun v_74=>
 if (decide (v19<((v_74.len:Nat):Int)))=true then(bnd (K_3x K K a3 first9 own12 need16 out17 t18 v19 ⟨none,0,0⟩ 0 w) fun y_96 w_97=>
 bnd (K_81 K y_96.1 w_97) fun r_98 w_99=>
 if (!r_98.2.1)=true then((prog.built 105 []).bind fun cs_100=>
 if (cs_100).size=6 then((stA a3 cs_100 w_99).bind fun w_101=>
 some (.ret (⟨none,0,0⟩,a3,117,()),w_101)) else none) else(bnd (bldS prog 67 1 #[(0,(.slice r_98.1.a r_98.1.len r_98.1.cap))] w_99) fun s_102 w_103=>
 bnd (apd prog 67 67 (.slice out17.a out17.len out17.cap) (.slice s_102.a s_102.len s_102.cap) w_103) fun s_104 w_105=>
 (r_98.1.a).bind fun p_106=>
 if (0:Int)≤0∧0<((r_98.1.len:Nat):Int) then((ldI .u8 (p_106.add (0*1)) w_105).bind fun v_107=>
 bnd (bldS prog 23 1 #[(0,(.int .u8 v_107))] w_105) fun s_108 w_109=>
 bnd (apd prog 23 23 (.slice t18.a t18.len t18.cap) (.slice s_108.a s_108.len s_108.cap) w_109) fun s_110 w_111=>
 rec a3 first9 own12 need16 s_104 s_110 (IntKind.i64.wrap (v19+1)) w_111) else none)) else(some (.norm (out17,t18,()),w))
noncomputable def K_q (K:Nat) (n:Nat):Addr→Addr→Sl→Int→Sl→Sl→Int→World→Option ((Out (Sl×Sl×Unit) (Sl×Addr×Int×Unit))×World):=iter (fun _ _ _ _ _ _ _ _=>none) (K_7p K) n
noncomputable def K_ac (K:Nat) (first9:Addr) (t18:Sl) (w:World):Option ((Bool×Unit)×World):=
 (ldI .u16 ((first9.add 0).add 0) w.drew).bind fun v_115=>
 (ldI .i64 ((first9.add 0).add 3) w.drew).bind fun v_116=>
 if (0:Int)≤v_116∧v_116≤((t18.cap:Nat):Int) then((b2sQ prog t18.a t18.len t18.cap w.drew).bind fun c_117=>
 bnd (K_gq K v_115 ⟨(sla t18.a 0 t18.cap 1),((Int.toNat (v_116)) - 0),(t18.cap - 0)⟩ w.drew) fun r_118 w_119=>
 (b2sQ prog t18.a t18.len t18.cap w_119).bind fun c_120=>
 sameK (.string c_117) (.string c_120) ((ldI .i64 ((first9.add 0).add 3) w_119).bind fun v_121=>
 sameK (.int .i64 v_116) (.int .i64 v_121) ((ldI .u16 ((first9.add 0).add 0) w_119).bind fun v_122=>
 sameK (.int .u16 v_115) (.int .u16 v_122) ((b2sQ prog r_118.1.a r_118.1.len r_118.1.cap w_119).bind fun c_123=>
 some (((!(c_123.toList == c_117.toList)),()),w_119))))) else none
noncomputable def K_99 (K:Nat) (shares0:Sl) (w:World):Option ((Sl×(Array Value)×Int×Unit)×World):=
 bnd (newB z105 105 w) fun p_1 w_2=>
 bnd (K_r K K shares0 p_1 ⟨none,0,0⟩ 0 w_2) fun y_17 w_18=>
 (match y_17 with
 | .norm z_19n=>(if (((z_19n.1.len:Nat):Int) == 0)=true then((prog.built 105 []).bind fun cs_20=>
 if (cs_20).size=6 then((stA p_1 cs_20 w_18).bind fun w_21=>
 (ldA 6 p_1 w_21).bind fun res_22=>
 some ((⟨none,0,0⟩,res_22,114,()),w_21)) else none) else((z_19n.1.a).bind fun p_23=>
 if (0:Int)≤0∧0<((z_19n.1.len:Nat):Int) then((ldA 6 (p_23.add (0*6)) w_18).bind fun v_24=>
 bnd (newB z105 105 w_18) fun first_25 w_26=>
 if (v_24).size=6 then((stA first_25 v_24 w_26).bind fun w_27=>
 bnd (K_20 K K p_1 z_19n.1 first_25 0 w_27) fun y_43 w_44=>
 (match y_43 with
 | .norm z_45n=>(bnd (K_x K K p_1 z_19n.1 first_25 ⟨none,0,0⟩ 0 w_44) fun y_67 w_68=>
 (match y_67 with
 | .norm z_69n=>((ldI .i64 ((first_25.add 0).add 1) w_68).bind fun v_70=>
 if (decide (((z_69n.1.len:Nat):Int)<v_70))=true then((prog.built 105 []).bind fun cs_71=>
 if (cs_71).size=6 then((stA p_1 cs_71 w_68).bind fun w_72=>
 (ldA 6 p_1 w_72).bind fun res_73=>
 some ((⟨none,0,0⟩,res_73,114,()),w_72)) else none) else(bnd (K_q K K p_1 first_25 z_69n.1 v_70 ⟨none,0,0⟩ ⟨none,0,0⟩ 0 w_68) fun y_112 w_113=>
 (match y_112 with
 | .norm z_114n=>(bnd (K_ac K first_25 z_114n.2.1 w_113) fun y_124 w_125=>
 if y_124.1=true then((prog.built 105 []).bind fun cs_126=>
 if (cs_126).size=6 then((stA p_1 cs_126 w_125).bind fun w_127=>
 (ldA 6 p_1 w_127).bind fun res_128=>
 some ((⟨none,0,0⟩,res_128,117,()),w_127)) else none) else((ldA 6 first_25 w_125.drew).bind fun v_129=>
 if (v_129).size=6 then((stA p_1 v_129 w_125.drew).bind fun w_130=>
 (ldA 6 p_1 w_130).bind fun res_131=>
 some ((z_114n.1,res_131,0,()),w_130)) else none))
 | .ret z_114r=>((ldA 6 z_114r.2.1 w_113).bind fun res_132=>
 some ((z_114r.1,res_132,z_114r.2.2.1,()),w_113)))))
 | .ret z_69r=>((ldA 6 z_69r.2.1 w_68).bind fun res_133=>
 some ((z_69r.1,res_133,z_69r.2.2.1,()),w_68))))
 | .ret z_45r=>((ldA 6 z_45r.2.1 w_44).bind fun res_134=>
 some ((z_45r.1,res_134,z_45r.2.2.1,()),w_44)))) else none) else none))
 | .ret z_19r=>((ldA 6 z_19r.2.1 w_18).bind fun res_135=>
 some ((z_19r.1,res_135,z_19r.2.2.1,()),w_18)))
theorem K_xd(K:Nat)(n:Nat):StmtOk prog [(0,.sl),(3,.addr),(5,.sl),(6,.int .i64)] [(5,.sl)] [(2,.sl),(3,.addr),(4,.int .i64)] [(2,3),(4,9),(26,48)] ((fun n x w=>K_r K n x.1 x.2.1 x.2.2.1 x.2.2.2.1 w) n) (.block 0 (.loop (cd (bodyOf f56) [1,1,0,1,0,0]))):=
  K_26 (O:=tabL []) (root:=(bodyOf f56)) (π:=[1,1,0,1,0,0]) (Li:=[(0,.sl),(3,.addr),(5,.sl),(6,.int .i64)]) (Lo:=[(5,.sl)]) (Lr:=[(2,.sl),(3,.addr),(4,.int .i64)]) (S:=(fun n x w=>K_r K n x.1 x.2.1 x.2.2.1 x.2.2.2.1 w)) (K_1k K) (K_1l K) rfl (Orc.nil _ _ _) (by kernel_rfl) (fun _ _=>by kernel_rfl) (fun _ _ _=>by kernel_rfl) n
noncomputable def K_kk (K:Nat):SE:=stmt [(0,.sl),(3,.addr),(5,.sl),(6,.int .i64)] [(5,.sl)] [(2,.sl),(3,.addr),(4,.int .i64)] [(2,3),(4,9),(26,48)] (fun x w=>K_r K K x.1 x.2.1 x.2.2.1 x.2.2.2.1 w)
theorem K_t3(K:Nat)(R:Rg)(h:subRB [(2,3),(4,9),(26,48)] R=true):(K_kk K).Ok prog R (.block 0 (.loop (cd (bodyOf f56) [1,1,0,1,0,0]))):=K_1o (K_xd K K) (K_0 h)
theorem K_yx(K:Nat):StmtNOk prog [(9,.addr),(11,.addr)] [(87,.bool)] [(66,88)] (fun x w=>K_a9 K x.1 x.2.1 w) (cd (bodyOf f56) [1,1,1,1,1,0,1,0,0,1,0,0,1,0]):=
  K_g (O:=tabL []) (root:=(bodyOf f56)) (π:=[1,1,1,1,1,0,1,0,0,1,0,0,1,0]) (K_1k K) (K_1l K) rfl (Orc.nil _ _ _) (by kernel_rfl) (fun _ _=>by kernel_rfl)
noncomputable def K_e6 (K:Nat):SE:=stmtN [(9,.addr),(11,.addr)] [(87,.bool)] [(66,88)] (fun x w=>K_a9 K x.1 x.2.1 w)
theorem K_gs(K:Nat)(R:Rg)(h:subRB [(66,88)] R=true):(K_e6 K).Ok prog R (cd (bodyOf f56) [1,1,1,1,1,0,1,0,0,1,0,0,1,0]):=K_2 (K_yx K) (K_0 h)
theorem K_z3(K:Nat)(n:Nat):StmtOk prog [(3,.addr),(5,.sl),(9,.addr),(10,.int .i64)] [] [(2,.sl),(3,.addr),(4,.int .i64)] [(2,3),(4,5),(10,12),(55,89)] ((fun n x w=>K_20 K n x.1 x.2.1 x.2.2.1 x.2.2.2.1 w) n) (.block 2 (.loop (cd (bodyOf f56) [1,1,1,1,1,0,1,0,0]))):=
  K_26 (O:=tabL [([1,1,1,1,1,0,1,0,0,1,0,0,1,0],K_e6 K)]) (root:=(bodyOf f56)) (π:=[1,1,1,1,1,0,1,0,0]) (Li:=[(3,.addr),(5,.sl),(9,.addr),(10,.int .i64)]) (Lo:=[]) (Lr:=[(2,.sl),(3,.addr),(4,.int .i64)]) (S:=(fun n x w=>K_20 K n x.1 x.2.1 x.2.2.1 x.2.2.2.1 w)) (K_1k K) (K_1l K) rfl (Orc.cons (by kernel_rfl) (K_gs K [(2,3),(4,5),(10,12),(55,89)] (by kernel_rfl)) (Orc.nil _ _ _)) (by kernel_rfl) (fun _ _=>by kernel_rfl) (fun _ _ _=>by kernel_rfl) n
noncomputable def K_kn (K:Nat):SE:=stmt [(3,.addr),(5,.sl),(9,.addr),(10,.int .i64)] [] [(2,.sl),(3,.addr),(4,.int .i64)] [(2,3),(4,5),(10,12),(55,89)] (fun x w=>K_20 K K x.1 x.2.1 x.2.2.1 x.2.2.2.1 w)
theorem K_sh(K:Nat)(R:Rg)(h:subRB [(2,3),(4,5),(10,12),(55,89)] R=true):(K_kn K).Ok prog R (.block 2 (.loop (cd (bodyOf f56) [1,1,1,1,1,0,1,0,0]))):=K_1o (K_z3 K K) (K_0 h)
theorem K_y5(K:Nat)(n:Nat):StmtOk prog [(3,.addr),(5,.sl),(9,.addr),(12,.sl),(13,.int .i64),(14,.bool),(15,.int .i64)] [(14,.bool)] [(2,.sl),(3,.addr),(4,.int .i64)] [(2,3),(4,5),(14,16),(95,127)] ((fun n x w=>K_1z K n x.1 x.2.1 x.2.2.1 x.2.2.2.1 x.2.2.2.2.1 x.2.2.2.2.2.1 x.2.2.2.2.2.2.1 w) n) (.block 6 (.loop (cd (bodyOf f56) [1,1,1,1,1,1,1,0,1,0,0,1,0,0,1,0,1,0,0]))):=
  K_26 (O:=tabL []) (root:=(bodyOf f56)) (π:=[1,1,1,1,1,1,1,0,1,0,0,1,0,0,1,0,1,0,0]) (Li:=[(3,.addr),(5,.sl),(9,.addr),(12,.sl),(13,.int .i64),(14,.bool),(15,.int .i64)]) (Lo:=[(14,.bool)]) (Lr:=[(2,.sl),(3,.addr),(4,.int .i64)]) (S:=(fun n x w=>K_1z K n x.1 x.2.1 x.2.2.1 x.2.2.2.1 x.2.2.2.2.1 x.2.2.2.2.2.1 x.2.2.2.2.2.2.1 w)) (K_1k K) (K_1l K) rfl (Orc.nil _ _ _) (by kernel_rfl) (fun _ _=>by kernel_rfl) (fun _ _ _=>by kernel_rfl) n
noncomputable def K_dt (K:Nat):SE:=stmt [(3,.addr),(5,.sl),(9,.addr),(12,.sl),(13,.int .i64),(14,.bool),(15,.int .i64)] [(14,.bool)] [(2,.sl),(3,.addr),(4,.int .i64)] [(2,3),(4,5),(14,16),(95,127)] (fun x w=>K_1z K K x.1 x.2.1 x.2.2.1 x.2.2.2.1 x.2.2.2.2.1 x.2.2.2.2.2.1 x.2.2.2.2.2.2.1 w)
theorem K_gy(K:Nat)(R:Rg)(h:subRB [(2,3),(4,5),(14,16),(95,127)] R=true):(K_dt K).Ok prog R (.block 6 (.loop (cd (bodyOf f56) [1,1,1,1,1,1,1,0,1,0,0,1,0,0,1,0,1,0,0]))):=K_1o (K_y5 K K) (K_0 h)
theorem K_xw(K:Nat)(n:Nat):StmtOk prog [(3,.addr),(5,.sl),(9,.addr),(12,.sl),(13,.int .i64)] [(12,.sl)] [(2,.sl),(3,.addr),(4,.int .i64)] [(2,3),(4,5),(12,16),(89,135)] ((fun n x w=>K_x K n x.1 x.2.1 x.2.2.1 x.2.2.2.1 x.2.2.2.2.1 w) n) (.block 4 (.loop (cd (bodyOf f56) [1,1,1,1,1,1,1,0,1,0,0]))):=
  K_26 (O:=tabL [([1,1,1,1,1,1,1,0,1,0,0,1,0,0,1,0,1],K_dt K)]) (root:=(bodyOf f56)) (π:=[1,1,1,1,1,1,1,0,1,0,0]) (Li:=[(3,.addr),(5,.sl),(9,.addr),(12,.sl),(13,.int .i64)]) (Lo:=[(12,.sl)]) (Lr:=[(2,.sl),(3,.addr),(4,.int .i64)]) (S:=(fun n x w=>K_x K n x.1 x.2.1 x.2.2.1 x.2.2.2.1 x.2.2.2.2.1 w)) (K_1k K) (K_1l K) rfl (Orc.cons (by kernel_rfl) (K_gy K [(2,3),(4,5),(12,16),(89,135)] (by kernel_rfl)) (Orc.nil _ _ _)) (by kernel_rfl) (fun _ _=>by kernel_rfl) (fun _ _ _=>by kernel_rfl) n
noncomputable def K_l6 (K:Nat):SE:=stmt [(3,.addr),(5,.sl),(9,.addr),(12,.sl),(13,.int .i64)] [(12,.sl)] [(2,.sl),(3,.addr),(4,.int .i64)] [(2,3),(4,5),(12,16),(89,135)] (fun x w=>K_x K K x.1 x.2.1 x.2.2.1 x.2.2.2.1 x.2.2.2.2.1 w)
theorem K_sb(K:Nat)(R:Rg)(h:subRB [(2,3),(4,5),(12,16),(89,135)] R=true):(K_l6 K).Ok prog R (.block 4 (.loop (cd (bodyOf f56) [1,1,1,1,1,1,1,0,1,0,0]))):=K_1o (K_xw K K) (K_0 h)
theorem K_yh(K:Nat)(n:Nat):StmtNOk prog [(3,.addr),(9,.addr),(12,.sl),(16,.int .i64),(17,.sl),(18,.sl),(19,.int .i64),(20,.sl),(21,.int .i64),(22,.sl),(23,.int .i64)] [(22,.sl)] [(22,24),(156,173)] ((fun n x w=>K_3m K n x.1 x.2.1 x.2.2.1 x.2.2.2.1 x.2.2.2.2.1 x.2.2.2.2.2.1 x.2.2.2.2.2.2.1 x.2.2.2.2.2.2.2.1 x.2.2.2.2.2.2.2.2.1 x.2.2.2.2.2.2.2.2.2.1 x.2.2.2.2.2.2.2.2.2.2.1 w) n) (.block 12 (.loop (cd (bodyOf f56) [1,1,1,1,1,1,1,1,1,1,1,1,0,1,0,0,1,0,0,1,0,1,0,0,1,0,0,1,0,1,0,0]))):=
  K_4 (O:=tabL []) (root:=(bodyOf f56)) (π:=[1,1,1,1,1,1,1,1,1,1,1,1,0,1,0,0,1,0,0,1,0,1,0,0,1,0,0,1,0,1,0,0]) (Li:=[(3,.addr),(9,.addr),(12,.sl),(16,.int .i64),(17,.sl),(18,.sl),(19,.int .i64),(20,.sl),(21,.int .i64),(22,.sl),(23,.int .i64)]) (Lo:=[(22,.sl)]) (S:=(fun n x w=>K_3m K n x.1 x.2.1 x.2.2.1 x.2.2.2.1 x.2.2.2.2.1 x.2.2.2.2.2.1 x.2.2.2.2.2.2.1 x.2.2.2.2.2.2.2.1 x.2.2.2.2.2.2.2.2.1 x.2.2.2.2.2.2.2.2.2.1 x.2.2.2.2.2.2.2.2.2.2.1 w)) (K_1k K) (K_1l K) rfl (Orc.nil _ _ _) (by kernel_rfl) (fun _ _=>by kernel_rfl) (fun _ _ _=>by kernel_rfl) n
noncomputable def K_9u (K:Nat):SE:=stmtN [(3,.addr),(9,.addr),(12,.sl),(16,.int .i64),(17,.sl),(18,.sl),(19,.int .i64),(20,.sl),(21,.int .i64),(22,.sl),(23,.int .i64)] [(22,.sl)] [(22,24),(156,173)] (fun x w=>K_3m K K x.1 x.2.1 x.2.2.1 x.2.2.2.1 x.2.2.2.2.1 x.2.2.2.2.2.1 x.2.2.2.2.2.2.1 x.2.2.2.2.2.2.2.1 x.2.2.2.2.2.2.2.2.1 x.2.2.2.2.2.2.2.2.2.1 x.2.2.2.2.2.2.2.2.2.2.1 w)
theorem K_bl(K:Nat)(R:Rg)(h:subRB [(22,24),(156,173)] R=true):(K_9u K).Ok prog R (.block 12 (.loop (cd (bodyOf f56) [1,1,1,1,1,1,1,1,1,1,1,1,0,1,0,0,1,0,0,1,0,1,0,0,1,0,0,1,0,1,0,0]))):=K_2 (K_yh K K) (K_0 h)
theorem K_xn(K:Nat)(n:Nat):StmtNOk prog [(3,.addr),(9,.addr),(12,.sl),(16,.int .i64),(17,.sl),(18,.sl),(19,.int .i64),(20,.sl),(21,.int .i64)] [(20,.sl)] [(20,24),(150,187)] ((fun n x w=>K_3x K n x.1 x.2.1 x.2.2.1 x.2.2.2.1 x.2.2.2.2.1 x.2.2.2.2.2.1 x.2.2.2.2.2.2.1 x.2.2.2.2.2.2.2.1 x.2.2.2.2.2.2.2.2.1 w) n) (.block 10 (.loop (cd (bodyOf f56) [1,1,1,1,1,1,1,1,1,1,1,1,0,1,0,0,1,0,0,1,0,1,0,0]))):=
  K_4 (O:=tabL [([1,1,1,1,1,1,1,1,1,1,1,1,0,1,0,0,1,0,0,1,0,1,0,0,1,0,0,1,0,1],K_9u K)]) (root:=(bodyOf f56)) (π:=[1,1,1,1,1,1,1,1,1,1,1,1,0,1,0,0,1,0,0,1,0,1,0,0]) (Li:=[(3,.addr),(9,.addr),(12,.sl),(16,.int .i64),(17,.sl),(18,.sl),(19,.int .i64),(20,.sl),(21,.int .i64)]) (Lo:=[(20,.sl)]) (S:=(fun n x w=>K_3x K n x.1 x.2.1 x.2.2.1 x.2.2.2.1 x.2.2.2.2.1 x.2.2.2.2.2.1 x.2.2.2.2.2.2.1 x.2.2.2.2.2.2.2.1 x.2.2.2.2.2.2.2.2.1 w)) (K_1k K) (K_1l K) rfl (Orc.cons (by kernel_rfl) (K_bl K [(20,24),(150,187)] (by kernel_rfl)) (Orc.nil _ _ _)) (by kernel_rfl) (fun _ _=>by kernel_rfl) (fun _ _ _=>by kernel_rfl) n
noncomputable def K_ea (K:Nat):SE:=stmtN [(3,.addr),(9,.addr),(12,.sl),(16,.int .i64),(17,.sl),(18,.sl),(19,.int .i64),(20,.sl),(21,.int .i64)] [(20,.sl)] [(20,24),(150,187)] (fun x w=>K_3x K K x.1 x.2.1 x.2.2.1 x.2.2.2.1 x.2.2.2.2.1 x.2.2.2.2.2.1 x.2.2.2.2.2.2.1 x.2.2.2.2.2.2.2.1 x.2.2.2.2.2.2.2.2.1 w)
theorem K_gt(K:Nat)(R:Rg)(h:subRB [(20,24),(150,187)] R=true):(K_ea K).Ok prog R (.block 10 (.loop (cd (bodyOf f56) [1,1,1,1,1,1,1,1,1,1,1,1,0,1,0,0,1,0,0,1,0,1,0,0]))):=K_2 (K_xn K K) (K_0 h)
theorem K_yj(K:Nat)(n:Nat):StmtOk prog [(3,.addr),(9,.addr),(12,.sl),(16,.int .i64),(17,.sl),(18,.sl),(19,.int .i64)] [(17,.sl),(18,.sl)] [(2,.sl),(3,.addr),(4,.int .i64)] [(2,3),(4,5),(17,26),(143,205)] ((fun n x w=>K_q K n x.1 x.2.1 x.2.2.1 x.2.2.2.1 x.2.2.2.2.1 x.2.2.2.2.2.1 x.2.2.2.2.2.2.1 w) n) (.block 8 (.loop (cd (bodyOf f56) [1,1,1,1,1,1,1,1,1,1,1,1,0,1,0,0]))):=
  K_26 (O:=tabL [([1,1,1,1,1,1,1,1,1,1,1,1,0,1,0,0,1,0,0,1,0,1],K_ea K),([1,1,1,1,1,1,1,1,1,1,1,1,0,1,0,0,1,0,0,1,0,1,0,0,1,0,0,1,0,1],K_9u K)]) (root:=(bodyOf f56)) (π:=[1,1,1,1,1,1,1,1,1,1,1,1,0,1,0,0]) (Li:=[(3,.addr),(9,.addr),(12,.sl),(16,.int .i64),(17,.sl),(18,.sl),(19,.int .i64)]) (Lo:=[(17,.sl),(18,.sl)]) (Lr:=[(2,.sl),(3,.addr),(4,.int .i64)]) (S:=(fun n x w=>K_q K n x.1 x.2.1 x.2.2.1 x.2.2.2.1 x.2.2.2.2.1 x.2.2.2.2.2.1 x.2.2.2.2.2.2.1 w)) (K_1k K) (K_1l K) rfl (Orc.cons (by kernel_rfl) (K_gt K [(2,3),(4,5),(17,26),(143,205)] (by kernel_rfl)) (Orc.cons (by kernel_rfl) (K_bl K [(2,3),(4,5),(17,26),(143,205)] (by kernel_rfl)) (Orc.nil _ _ _))) (by kernel_rfl) (fun _ _=>by kernel_rfl) (fun _ _ _=>by kernel_rfl) n
noncomputable def K_k2 (K:Nat):SE:=stmt [(3,.addr),(9,.addr),(12,.sl),(16,.int .i64),(17,.sl),(18,.sl),(19,.int .i64)] [(17,.sl),(18,.sl)] [(2,.sl),(3,.addr),(4,.int .i64)] [(2,3),(4,5),(17,26),(143,205)] (fun x w=>K_q K K x.1 x.2.1 x.2.2.1 x.2.2.2.1 x.2.2.2.2.1 x.2.2.2.2.2.1 x.2.2.2.2.2.2.1 w)
theorem K_ti(K:Nat)(R:Rg)(h:subRB [(2,3),(4,5),(17,26),(143,205)] R=true):(K_k2 K).Ok prog R (.block 8 (.loop (cd (bodyOf f56) [1,1,1,1,1,1,1,1,1,1,1,1,0,1,0,0]))):=K_1o (K_yj K K) (K_0 h)
theorem K_xb(K:Nat):StmtNOk prog [(9,.addr),(18,.sl)] [(217,.bool)] [(205,218)] (fun x w=>K_ac K x.1 x.2.1 w) (cd (bodyOf f56) [1,1,1,1,1,1,1,1,1,1,1,1,1,0,0]):=
  K_ab (K_1k K) (K_1l K) rfl (fun _ _=>by kernel_rfl)
noncomputable def K_l9 (K:Nat):SE:=stmtN [(9,.addr),(18,.sl)] [(217,.bool)] [(205,218)] (fun x w=>K_ac K x.1 x.2.1 w)
theorem K_rp(K:Nat)(R:Rg)(h:subRB [(205,218)] R=true):(K_l9 K).Ok prog R (cd (bodyOf f56) [1,1,1,1,1,1,1,1,1,1,1,1,1,0,0]):=K_2 (K_xb K) (K_0 h)
theorem K_k4:FunFacts prog 56 f56 (bodyOf f56) [(0,.sl)] [(0,221)]:=⟨func56,by kernel_rfl,by kernel_rfl,by kernel_rfl,by kernel_rfl,by kernel_rfl⟩
theorem K_yl(K:Nat)(x:TT [(0,.sl)])(w:World)(y:TR [.sl,.agg,.int .i64])(w2:World)(h:K_99 K x.1 w=some (y,w2)):Calls prog 56 (encA [(0,.sl)] x).toArray w (fun e w3=>e= .returned (resV (encR [.sl,.agg,.int .i64] y))∧w3=w2):=
  K_b (O:=tabL [([1,1,0,1],K_kk K),([1,1,1,1,1,0,1],K_kn K),([1,1,1,1,1,0,1,0,0,1,0,0,1,0],K_e6 K),([1,1,1,1,1,1,1,0,1],K_l6 K),([1,1,1,1,1,1,1,0,1,0,0,1,0,0,1,0,1],K_dt K),([1,1,1,1,1,1,1,1,1,1,1,1,0,1],K_k2 K),([1,1,1,1,1,1,1,1,1,1,1,1,0,1,0,0,1,0,0,1,0,1],K_ea K),([1,1,1,1,1,1,1,1,1,1,1,1,0,1,0,0,1,0,0,1,0,1,0,0,1,0,0,1,0,1],K_9u K),([1,1,1,1,1,1,1,1,1,1,1,1,1,0,0],K_l9 K)]) (Lp:=[(0,.sl)]) (Rt:=[.sl,.agg,.int .i64]) (S:=(fun x w=>K_99 K x.1 w)) (K_1k K) (K_1l K) rfl K_k4 (Orc.cons (by kernel_rfl) (K_t3 K [(0,221)] (by kernel_rfl)) (Orc.cons (by kernel_rfl) (K_sh K [(0,221)] (by kernel_rfl)) (Orc.cons (by kernel_rfl) (K_gs K [(0,221)] (by kernel_rfl)) (Orc.cons (by kernel_rfl) (K_sb K [(0,221)] (by kernel_rfl)) (Orc.cons (by kernel_rfl) (K_gy K [(0,221)] (by kernel_rfl)) (Orc.cons (by kernel_rfl) (K_ti K [(0,221)] (by kernel_rfl)) (Orc.cons (by kernel_rfl) (K_gt K [(0,221)] (by kernel_rfl)) (Orc.cons (by kernel_rfl) (K_bl K [(0,221)] (by kernel_rfl)) (Orc.cons (by kernel_rfl) (K_rp K [(0,221)] (by kernel_rfl)) (Orc.nil _ _ _)))))))))) (fun _ _=>by kernel_rfl) x w y w2 h
noncomputable def K_hy (K:Nat):CE:=funE [(0,.sl)] [.sl,.agg,.int .i64] (fun x w=>K_99 K x.1 w)
theorem K_qb(K:Nat):(K_hy K).Ok prog 56:=K_8 K_k4 fun x w y w2 h=>K_yl K x w y w2 h
noncomputable def K_19x (K:Nat):List (Nat×CE):=[(56,K_hy K)]
theorem K_rd(K:Nat):Env.Ok prog (tab (K_19x K)):=(Env.cons (K_qb K) (Env.nil _))
noncomputable def K_1b2 (K:Nat):List (Nat×RE):=[]
theorem K_sm(K:Nat):REnv.Ok prog (tab (K_1b2 K)):=(REnv.nil _)
noncomputable def K_9l (K:Nat) (rec:Sl→Addr→Sl→Int→World→Option ((Sl×Unit)×World)) (l4:Sl) (first5:Addr) (t7:Sl) (i8:Int) (w:World):Option ((Sl×Unit)×World):=
 (ldI .i64 ((first5.add 0).add 3) w).bind fun v_6=>
 if (decide (i8<v_6))=true then((l4.a).bind fun p_7=>
 if (0:Int)≤i8∧i8<((l4.len:Nat):Int) then((ldS (p_7.add ((Int.toNat i8)*1)) w).bind fun v_8=>
 (v_8.a).bind fun p_9=>
 if (0:Int)≤0∧0<((v_8.len:Nat):Int) then((ldI .u8 (p_9.add (0*1)) w).bind fun v_10=>
 bnd (bldS prog 23 1 #[(0,(.int .u8 v_10))] w) fun s_11 w_12=>
 bnd (apd prog 23 23 (.slice t7.a t7.len t7.cap) (.slice s_11.a s_11.len s_11.cap) w_12) fun s_13 w_14=>
 rec l4 first5 s_13 (IntKind.i64.wrap (i8+1)) w_14) else none) else none) else(some ((t7,()),w))
noncomputable def K_5l (K:Nat) (n:Nat):Sl→Addr→Sl→Int→World→Option ((Sl×Unit)×World):=iter (fun _ _ _ _ _=>none) (K_9l K) n
noncomputable def K_er (K:Nat) (shares0:Sl) (w:World):Option ((Sl×Int×Unit)×World):=
 bnd (K_99 K shares0 w) fun r_1 w_2=>
 bnd (newB z105 105 w_2) fun first_3 w_4=>
 if (r_1.2.1).size=6 then((stA first_3 r_1.2.1 w_4).bind fun w_5=>
 if (r_1.2.2.1 != 0)=true then(some ((⟨none,0,0⟩,r_1.2.2.1,()),w_5)) else(bnd (K_5l K K r_1.1 first_3 ⟨none,0,0⟩ 0 w_5) fun y_15 w_16=>
 some ((y_15.1,0,()),w_16))) else none
theorem K_13u(K:Nat)(n:Nat):StmtNOk prog [(4,.sl),(5,.addr),(7,.sl),(8,.int .i64)] [(7,.sl)] [(7,9),(18,34)] ((fun n x w=>K_5l K n x.1 x.2.1 x.2.2.1 x.2.2.2.1 w) n) (.block 0 (.loop (cd (bodyOf f26) [1,1,1,1,0,1,0,0]))):=
  K_4 (O:=tabL []) (root:=(bodyOf f26)) (π:=[1,1,1,1,0,1,0,0]) (Li:=[(4,.sl),(5,.addr),(7,.sl),(8,.int .i64)]) (Lo:=[(7,.sl)]) (S:=(fun n x w=>K_5l K n x.1 x.2.1 x.2.2.1 x.2.2.2.1 w)) (K_rd K) (K_sm K) rfl (Orc.nil _ _ _) (by kernel_rfl) (fun _ _=>by kernel_rfl) (fun _ _ _=>by kernel_rfl) n
noncomputable def K_og (K:Nat):SE:=stmtN [(4,.sl),(5,.addr),(7,.sl),(8,.int .i64)] [(7,.sl)] [(7,9),(18,34)] (fun x w=>K_5l K K x.1 x.2.1 x.2.2.1 x.2.2.2.1 w)
theorem K_vv(K:Nat)(R:Rg)(h:subRB [(7,9),(18,34)] R=true):(K_og K).Ok prog R (.block 0 (.loop (cd (bodyOf f26) [1,1,1,1,0,1,0,0]))):=K_2 (K_13u K K) (K_0 h)
theorem K_ov:FunFacts prog 26 f26 (bodyOf f26) [(0,.sl)] [(0,35)]:=⟨func26,by kernel_rfl,by kernel_rfl,by kernel_rfl,by kernel_rfl,by kernel_rfl⟩
theorem K_12n(K:Nat)(x:TT [(0,.sl)])(w:World)(y:TR [.sl,.int .i64])(w2:World)(h:K_er K x.1 w=some (y,w2)):Calls prog 26 (encA [(0,.sl)] x).toArray w (fun e w3=>e= .returned (resV (encR [.sl,.int .i64] y))∧w3=w2):=
  K_b (O:=tabL [([1,1,1,1,0,1],K_og K)]) (Lp:=[(0,.sl)]) (Rt:=[.sl,.int .i64]) (S:=(fun x w=>K_er K x.1 w)) (K_rd K) (K_sm K) rfl K_ov (Orc.cons (by kernel_rfl) (K_vv K [(0,35)] (by kernel_rfl)) (Orc.nil _ _ _)) (fun _ _=>by kernel_rfl) x w y w2 h
noncomputable def K_vd (K:Nat):CE:=funE [(0,.sl)] [.sl,.int .i64] (fun x w=>K_er K x.1 w)
theorem K_18i(K:Nat):(K_vd K).Ok prog 26:=K_8 K_ov fun x w y w2 h=>K_12n K x w y w2 h
noncomputable def K_16c (K:Nat):List (Nat×CE):=[(56,K_hy K),(48,K_t2 K),(50,K_ro K),(49,K_rw K)]
theorem K_gi(K:Nat):Env.Ok prog (tab (K_16c K)):=(Env.cons (K_qb K) (Env.cons (K_16n K) (Env.cons (K_176 K) (Env.cons (K_15z K) (Env.nil _)))))
noncomputable def K_16k (K:Nat):List (Nat×RE):=[]
theorem K_ge(K:Nat):REnv.Ok prog (tab (K_16k K)):=(REnv.nil _)
noncomputable def K_9o (K:Nat) (index0:Int) (w:World):Option ((Bool×Unit)×World):=
 if (decide (index0<1))=true then(some ((true,()),w)) else(some (((decide (index0 > 255)),()),w))
noncomputable def K_7n (K:Nat) (rec:Int→Sl→Addr→Sl→Int→World→Option ((Sl×Unit)×World)) (index0:Int) (l6:Sl) (first7:Addr) (values9:Sl) (i10:Int) (w:World):Option ((Sl×Unit)×World):=
 if (decide (i10<((l6.len:Nat):Int)))=true then((l6.a).bind fun p_8=>
 if (0:Int)≤i10∧i10<((l6.len:Nat):Int) then((ldS (p_8.add ((Int.toNat i10)*1)) w).bind fun v_9=>
 bnd (K_ct K v_9 index0 w) fun r_10 w_11=>
 bnd (bldS prog 23 1 #[(0,(.int .u8 r_10.1))] w_11) fun s_12 w_13=>
 bnd (apd prog 23 23 (.slice values9.a values9.len values9.cap) (.slice s_12.a s_12.len s_12.cap) w_13) fun s_14 w_15=>
 rec index0 l6 first7 s_14 (IntKind.i64.wrap (i10+1)) w_15) else none) else(some ((values9,()),w))
noncomputable def K_3o (K:Nat) (n:Nat):Int→Sl→Addr→Sl→Int→World→Option ((Sl×Unit)×World):=iter (fun _ _ _ _ _ _=>none) (K_7n K) n
noncomputable def K_bh (K:Nat) (index0:Int) (shares1:Sl) (w:World):Option ((ByteArray×Int×Unit)×World):=
 bnd (K_9o K index0 w) fun y_1 w_2=>
 if y_1.1=true then(some ((str0,110,()),w_2)) else(bnd (K_99 K shares1 w_2) fun r_3 w_4=>
 bnd (newB z105 105 w_4) fun first_5 w_6=>
 if (r_3.2.1).size=6 then((stA first_5 r_3.2.1 w_6).bind fun w_7=>
 if (r_3.2.2.1 != 0)=true then(some ((str0,r_3.2.2.1,()),w_7)) else(bnd (K_3o K K index0 r_3.1 first_5 ⟨none,0,0⟩ 0 w_7) fun y_16 w_17=>
 (ldA 4 (first_5.add 0) w_17).bind fun v_18=>
 bnd (newB z84 84 w_17) fun s_19 w_20=>
 if (v_18).size=4 then((stA s_19 v_18 w_20).bind fun w_21=>
 (stC (s_19.add 2) (.int .i64 index0) w_21).bind fun w_22=>
 (ldA 4 s_19 w_22).bind fun v_23=>
 bnd (K_d1 K v_23 y_16.1 w_22) fun r_24 w_25=>
 bnd (K_cu K r_24.1 w_25) fun r_26 w_27=>
 some ((r_26.1,0,()),w_27)) else none)) else none)
theorem K_x9(K:Nat):StmtNOk prog [(0,.int .i64)] [(17,.bool)] [(12,18)] (fun x w=>K_9o K x.1 w) (cd (bodyOf f27) [1,0,0]):=
  K_g (O:=tabL []) (root:=(bodyOf f27)) (π:=[1,0,0]) (K_gi K) (K_ge K) rfl (Orc.nil _ _ _) (by kernel_rfl) (fun _ _=>by kernel_rfl)
noncomputable def K_l2 (K:Nat):SE:=stmtN [(0,.int .i64)] [(17,.bool)] [(12,18)] (fun x w=>K_9o K x.1 w)
theorem K_t8(K:Nat)(R:Rg)(h:subRB [(12,18)] R=true):(K_l2 K).Ok prog R (cd (bodyOf f27) [1,0,0]):=K_2 (K_x9 K) (K_0 h)
theorem K_z2(K:Nat)(n:Nat):StmtNOk prog [(0,.int .i64),(6,.sl),(7,.addr),(9,.sl),(10,.int .i64)] [(9,.sl)] [(9,11),(27,42)] ((fun n x w=>K_3o K n x.1 x.2.1 x.2.2.1 x.2.2.2.1 x.2.2.2.2.1 w) n) (.block 0 (.loop (cd (bodyOf f27) [1,1,1,1,1,0,1,0,0]))):=
  K_4 (O:=tabL []) (root:=(bodyOf f27)) (π:=[1,1,1,1,1,0,1,0,0]) (Li:=[(0,.int .i64),(6,.sl),(7,.addr),(9,.sl),(10,.int .i64)]) (Lo:=[(9,.sl)]) (S:=(fun n x w=>K_3o K n x.1 x.2.1 x.2.2.1 x.2.2.2.1 x.2.2.2.2.1 w)) (K_gi K) (K_ge K) rfl (Orc.nil _ _ _) (by kernel_rfl) (fun _ _=>by kernel_rfl) (fun _ _ _=>by kernel_rfl) n
noncomputable def K_kt (K:Nat):SE:=stmtN [(0,.int .i64),(6,.sl),(7,.addr),(9,.sl),(10,.int .i64)] [(9,.sl)] [(9,11),(27,42)] (fun x w=>K_3o K K x.1 x.2.1 x.2.2.1 x.2.2.2.1 x.2.2.2.2.1 w)
theorem K_so(K:Nat)(R:Rg)(h:subRB [(9,11),(27,42)] R=true):(K_kt K).Ok prog R (.block 0 (.loop (cd (bodyOf f27) [1,1,1,1,1,0,1,0,0]))):=K_2 (K_z2 K K) (K_0 h)
theorem K_kj:FunFacts prog 27 f27 (bodyOf f27) [(0,.int .i64),(1,.sl)] [(0,50)]:=⟨func27,by kernel_rfl,by kernel_rfl,by kernel_rfl,by kernel_rfl,by kernel_rfl⟩
theorem K_z4(K:Nat)(x:TT [(0,.int .i64),(1,.sl)])(w:World)(y:TR [.str,.int .i64])(w2:World)(h:K_bh K x.1 x.2.1 w=some (y,w2)):Calls prog 27 (encA [(0,.int .i64),(1,.sl)] x).toArray w (fun e w3=>e= .returned (resV (encR [.str,.int .i64] y))∧w3=w2):=
  K_b (O:=tabL [([1,0,0],K_l2 K),([1,1,1,1,1,0,1],K_kt K)]) (Lp:=[(0,.int .i64),(1,.sl)]) (Rt:=[.str,.int .i64]) (S:=(fun x w=>K_bh K x.1 x.2.1 w)) (K_gi K) (K_ge K) rfl K_kj (Orc.cons (by kernel_rfl) (K_t8 K [(0,50)] (by kernel_rfl)) (Orc.cons (by kernel_rfl) (K_so K [(0,50)] (by kernel_rfl)) (Orc.nil _ _ _))) (fun _ _=>by kernel_rfl) x w y w2 h
noncomputable def K_qc (K:Nat):CE:=funE [(0,.int .i64),(1,.sl)] [.str,.int .i64] (fun x w=>K_bh K x.1 x.2.1 w)
theorem K_14q(K:Nat):(K_qc K).Ok prog 27:=K_8 K_kj fun x w y w2 h=>K_z4 K x w y w2 h
end Go.Sh

namespace Go.Sh
open Go.Fw Go.Proofs.Tryd
noncomputable def K_16m (K:Nat):List (Nat×CE):=[]
theorem K_bx(K:Nat):Env.Ok prog (tab (K_16m K)):=(Env.nil _)
noncomputable def K_166 (K:Nat):List (Nat×RE):=[]
theorem K_ca(K:Nat):REnv.Ok prog (tab (K_166 K)):=(REnv.nil _)
noncomputable def K_a5 (K:Nat) (set6:ByteArray) (bits7:Int) (a18:Bool) (w:World):Option ((ByteArray×Int×Unit)×World):=
 if a18=true then(some ((str2,2,()),w)) else(some ((set6,bits7,()),w))
noncomputable def K_7t (K:Nat) (rec:Int→Int→ByteArray→Int→Sl→Int→Int→Int→Int→World→Option ((Out (Unit) (Int×Unit))×World)) (v3:Int) (c5:Int) (set6:ByteArray) (bits7:Int) (a9:Sl) (a10:Int) (a11:Int) (a20:Int) (a21:Int) (w:World):Option ((Out (Unit) (Int×Unit))×World):=
 if (decide (a21<a20))=true then(if (0:Int)≤a21 then((set6[(Int.toNat a21)]?).bind fun b_5=>
 if (((b_5.toNat:Nat):Int) == c5)=true then(if (0:Int)≤bits7 then(some (.ret ((bits .or .i64 (IntKind.i64.wrap (v3*2 ^ (min (Int.toNat bits7) IntKind.i64.bits))) a21),()),w)) else none) else(rec v3 c5 set6 bits7 a9 a10 a11 a20 (IntKind.i64.wrap (a21+1)) w)) else none) else(some (.norm (),w))
noncomputable def K_3j (K:Nat) (n:Nat):Int→Int→ByteArray→Int→Sl→Int→Int→Int→Int→World→Option ((Out (Unit) (Int×Unit))×World):=iter (fun _ _ _ _ _ _ _ _ _ _=>none) (K_7t K) n
noncomputable def K_7f (K:Nat) (rec:Int→Sl→Int→Int→World→Option ((Out (Int×Unit) (Int×Unit))×World)) (v3:Int) (a9:Sl) (a10:Int) (a11:Int) (w:World):Option ((Out (Int×Unit) (Int×Unit))×World):=
 if (decide (a11<a10))=true then((a9.a).bind fun p_1=>
 if (0:Int)≤a11∧a11<((a9.len:Nat):Int) then((ldI .u8 (p_1.add ((Int.toNat a11)*1)) w).bind fun v_2=>
 bnd (K_a5 K str1 4 ((Int.tmod a11 2) == 1) w) fun y_3 w_4=>
 bnd (K_3j K K v3 v_2 y_3.1 y_3.2.1 a9 a10 a11 ((y_3.1.size:Nat):Int) 0 w_4) fun y_6 w_7=>
 (match y_6 with
 | .norm z_8n=>(some (.ret (0,()),w_7))
 | .ret z_8r=>(rec z_8r.1 a9 a10 (IntKind.i64.wrap (a11+1)) w_7))) else none) else(some (.norm (v3,()),w))
noncomputable def K_3k (K:Nat) (n:Nat):Int→Sl→Int→Int→World→Option ((Out (Int×Unit) (Int×Unit))×World):=iter (fun _ _ _ _ _=>none) (K_7f K) n
noncomputable def K_b9 (K:Nat) (word0:Sl) (w:World):Option ((Int×Unit)×World):=
 bnd (K_3k K K 0 word0 ((word0.len:Nat):Int) 0 w) fun y_9 w_10=>
 (match y_9 with
 | .norm z_11n=>(some ((z_11n.1,()),w_10))
 | .ret z_11r=>(some ((z_11r.1,()),w_10)))
theorem K_yf(K:Nat):StmtNOk prog [(6,.str),(7,.int .i64),(18,.bool)] [(6,.str),(7,.int .i64)] [(6,8)] (fun x w=>K_a5 K x.1 x.2.1 x.2.2.1 w) (cd (bodyOf f121) [1,0,1,1,0,1,0,0,1,1,0,0,1,1,0,1]):=
  K_g (O:=tabL []) (root:=(bodyOf f121)) (π:=[1,0,1,1,0,1,0,0,1,1,0,0,1,1,0,1]) (K_bx K) (K_ca K) rfl (Orc.nil _ _ _) (by kernel_rfl) (fun _ _=>by kernel_rfl)
noncomputable def K_dq (K:Nat):SE:=stmtN [(6,.str),(7,.int .i64),(18,.bool)] [(6,.str),(7,.int .i64)] [(6,8)] (fun x w=>K_a5 K x.1 x.2.1 x.2.2.1 w)
theorem K_gw(K:Nat)(R:Rg)(h:subRB [(6,8)] R=true):(K_dq K).Ok prog R (cd (bodyOf f121) [1,0,1,1,0,1,0,0,1,1,0,0,1,1,0,1]):=K_2 (K_yf K) (K_0 h)
theorem K_yd(K:Nat)(n:Nat):StmtEOk prog 1 [(3,.int .i64),(5,.int .u8),(6,.str),(7,.int .i64),(9,.sl),(10,.int .i64),(11,.int .i64),(20,.int .i64),(21,.int .i64)] [] [(3,.int .i64)] [(3,4),(8,9),(21,35)] ((fun n x w=>K_3j K n x.1 x.2.1 x.2.2.1 x.2.2.2.1 x.2.2.2.2.1 x.2.2.2.2.2.1 x.2.2.2.2.2.2.1 x.2.2.2.2.2.2.2.1 x.2.2.2.2.2.2.2.2.1 w) n) (.block 2 (.loop (cd (bodyOf f121) [1,0,1,1,0,1,0,0,1,1,0,0,1,1,1,0,1,0,0]))):=
  K_1hl (O:=tabL []) (root:=(bodyOf f121)) (π:=[1,0,1,1,0,1,0,0,1,1,0,0,1,1,1,0,1,0,0]) (m:=1) (Li:=[(3,.int .i64),(5,.int .u8),(6,.str),(7,.int .i64),(9,.sl),(10,.int .i64),(11,.int .i64),(20,.int .i64),(21,.int .i64)]) (Lo:=[]) (Lx:=[(3,.int .i64)]) (S:=(fun n x w=>K_3j K n x.1 x.2.1 x.2.2.1 x.2.2.2.1 x.2.2.2.2.1 x.2.2.2.2.2.1 x.2.2.2.2.2.2.1 x.2.2.2.2.2.2.2.1 x.2.2.2.2.2.2.2.2.1 w)) (K_bx K) (K_ca K) rfl (Orc.nil _ _ _) (by kernel_rfl) (fun _ _=>by kernel_rfl) (fun _ _ _=>by kernel_rfl) n
noncomputable def K_dw (K:Nat):SE:=stmtE 1 [(3,.int .i64),(5,.int .u8),(6,.str),(7,.int .i64),(9,.sl),(10,.int .i64),(11,.int .i64),(20,.int .i64),(21,.int .i64)] [] [(3,.int .i64)] [(3,4),(8,9),(21,35)] (fun x w=>K_3j K K x.1 x.2.1 x.2.2.1 x.2.2.2.1 x.2.2.2.2.1 x.2.2.2.2.2.1 x.2.2.2.2.2.2.1 x.2.2.2.2.2.2.2.1 x.2.2.2.2.2.2.2.2.1 w)
theorem K_h8(K:Nat)(R:Rg)(h:subRB [(3,4),(8,9),(21,35)] R=true):(K_dw K).Ok prog R (.block 2 (.loop (cd (bodyOf f121) [1,0,1,1,0,1,0,0,1,1,0,0,1,1,1,0,1,0,0]))):=K_1jh (m:=1) (Lx:=[(3,.int .i64)]) (K_yd K K) (K_0 h)
theorem K_xi(K:Nat)(n:Nat):StmtOk prog [(3,.int .i64),(9,.sl),(10,.int .i64),(11,.int .i64)] [(3,.int .i64)] [(2,.int .i64)] [(2,9),(11,36)] ((fun n x w=>K_3k K n x.1 x.2.1 x.2.2.1 x.2.2.2.1 w) n) (.block 0 (.loop (cd (bodyOf f121) [1,0,1,1,0,1,0,0]))):=
  K_26 (O:=tabL [([1,0,1,1,0,1,0,0,1,1,0,0,1,1,0,1],K_dq K),([1,0,1,1,0,1,0,0,1,1,0,0,1,1,1,0,1],K_dw K)]) (root:=(bodyOf f121)) (π:=[1,0,1,1,0,1,0,0]) (Li:=[(3,.int .i64),(9,.sl),(10,.int .i64),(11,.int .i64)]) (Lo:=[(3,.int .i64)]) (Lr:=[(2,.int .i64)]) (S:=(fun n x w=>K_3k K n x.1 x.2.1 x.2.2.1 x.2.2.2.1 w)) (K_bx K) (K_ca K) rfl (Orc.cons (by kernel_rfl) (K_gw K [(2,9),(11,36)] (by kernel_rfl)) (Orc.cons (by kernel_rfl) (K_h8 K [(2,9),(11,36)] (by kernel_rfl)) (Orc.nil _ _ _))) (by kernel_rfl) (fun _ _=>by kernel_rfl) (fun _ _ _=>by kernel_rfl) n
noncomputable def K_kg (K:Nat):SE:=stmt [(3,.int .i64),(9,.sl),(10,.int .i64),(11,.int .i64)] [(3,.int .i64)] [(2,.int .i64)] [(2,9),(11,36)] (fun x w=>K_3k K K x.1 x.2.1 x.2.2.1 x.2.2.2.1 w)
theorem K_sj(K:Nat)(R:Rg)(h:subRB [(2,9),(11,36)] R=true):(K_kg K).Ok prog R (.block 0 (.loop (cd (bodyOf f121) [1,0,1,1,0,1,0,0]))):=K_1o (K_xi K K) (K_0 h)
theorem K_k7:FunFacts prog 121 f121 (bodyOf f121) [(0,.sl)] [(0,37)]:=⟨func121,by kernel_rfl,by kernel_rfl,by kernel_rfl,by kernel_rfl,by kernel_rfl⟩
theorem K_xe(K:Nat)(x:TT [(0,.sl)])(w:World)(y:TR [.int .i64])(w2:World)(h:K_b9 K x.1 w=some (y,w2)):Calls prog 121 (encA [(0,.sl)] x).toArray w (fun e w3=>e= .returned (resV (encR [.int .i64] y))∧w3=w2):=
  K_b (O:=tabL [([1,0,1,1,0,1],K_kg K),([1,0,1,1,0,1,0,0,1,1,0,0,1,1,0,1],K_dq K),([1,0,1,1,0,1,0,0,1,1,0,0,1,1,1,0,1],K_dw K)]) (Lp:=[(0,.sl)]) (Rt:=[.int .i64]) (S:=(fun x w=>K_b9 K x.1 w)) (K_bx K) (K_ca K) rfl K_k7 (Orc.cons (by kernel_rfl) (K_sj K [(0,37)] (by kernel_rfl)) (Orc.cons (by kernel_rfl) (K_gw K [(0,37)] (by kernel_rfl)) (Orc.cons (by kernel_rfl) (K_h8 K [(0,37)] (by kernel_rfl)) (Orc.nil _ _ _)))) (fun _ _=>by kernel_rfl) x w y w2 h
noncomputable def K_pj (K:Nat):CE:=funE [(0,.sl)] [.int .i64] (fun x w=>K_b9 K x.1 w)
theorem K_13w(K:Nat):(K_pj K).Ok prog 121:=K_8 K_k7 fun x w y w2 h=>K_xe K x w y w2 h
noncomputable def K_w5 (K:Nat):List (Nat×CE):=[(121,K_pj K)]
theorem K_rt(K:Nat):Env.Ok prog (tab (K_w5 K)):=(Env.cons (K_13w K) (Env.nil _))
noncomputable def K_x0 (K:Nat):List (Nat×RE):=[]
theorem K_rf(K:Nat):REnv.Ok prog (tab (K_x0 K)):=(REnv.nil _)
noncomputable def K_3g (K:Nat) (a0:Option Addr) (a1:Option Addr) (a2:Option Addr) (w:World):Option ((Unit)×World):=
 (a0).bind fun p_1=>
 (ldS p_1 w).bind fun v_2=>
 if (((v_2.len:Nat):Int) == 0)=true then(some ((),w)) else((a0).bind fun p_3=>
 (ldS p_3 w).bind fun v_4=>
 if (((v_4.len:Nat):Int) != 5)=true then((a1).bind fun p_5=>
 (stC p_5 (.bool false) w).bind fun w_6=>
 some ((),w_6)) else((a0).bind fun p_7=>
 (ldS p_7 w).bind fun v_8=>
 bnd (K_b9 K v_8 w) fun r_9 w_10=>
 (a2).bind fun p_11=>
 (ldS p_11 w_10).bind fun v_12=>
 bnd (bldS prog 23 2 #[(0,(.int .u8 (IntKind.u8.wrap (Int.fdiv r_9.1 (2 ^ 8))))),(1,(.int .u8 (IntKind.u8.wrap r_9.1)))] w_10) fun s_13 w_14=>
 bnd (apd prog 23 23 (.slice v_12.a v_12.len v_12.cap) (.slice s_13.a s_13.len s_13.cap) w_14) fun s_15 w_16=>
 (a2).bind fun p_17=>
 (stC p_17 (.slice s_15.a s_15.len s_15.cap) w_16).bind fun w_18=>
 (a0).bind fun p_19=>
 (stC p_19 (.slice none 0 0) w_18).bind fun w_20=>
 some ((),w_20)))
theorem K_f8:FunFacts prog 120 f120 (bodyOf f120) [(0,.ptr),(1,.ptr),(2,.ptr)] [(0,20)]:=⟨func120,by kernel_rfl,by kernel_rfl,by kernel_rfl,by kernel_rfl,by kernel_rfl⟩
theorem K_pg(K:Nat)(x:TT [(0,.ptr),(1,.ptr),(2,.ptr)])(w:World)(y:TR [])(w2:World)(h:K_3g K x.1 x.2.1 x.2.2.1 w=some (y,w2)):Calls prog 120 (encA [(0,.ptr),(1,.ptr),(2,.ptr)] x).toArray w (fun e w3=>e= .returned (resV (encR [] y))∧w3=w2):=
  K_b (O:=tabL []) (Lp:=[(0,.ptr),(1,.ptr),(2,.ptr)]) (Rt:=[]) (S:=(fun x w=>K_3g K x.1 x.2.1 x.2.2.1 w)) (K_rt K) (K_rf K) rfl K_f8 (Orc.nil _ _ _) (fun _ _=>by kernel_rfl) x w y w2 h
noncomputable def K_hw (K:Nat):CE:=funE [(0,.ptr),(1,.ptr),(2,.ptr)] [] (fun x w=>K_3g K x.1 x.2.1 x.2.2.1 w)
theorem K_u2(K:Nat):(K_hw K).Ok prog 120:=K_8 K_f8 fun x w y w2 h=>K_pg K x w y w2 h
noncomputable def K_am (K:Nat):List (Nat×CE):=[(120,K_hw K)]
theorem K_5v(K:Nat):Env.Ok prog (tab (K_am K)):=(Env.cons (K_u2 K) (Env.nil _))
noncomputable def K_zh (K:Nat):List (Nat×RE):=[]
theorem K_5t(K:Nat):REnv.Ok prog (tab (K_zh K)):=(REnv.nil _)
noncomputable def K_6q (K:Nat) (a19:Int) (a32:Bool) (w:World):Option ((Bool×Unit)×World):=
 if a32=true then(some ((true,()),w)) else(if (a19 == 9)=true then(some ((true,()),w)) else(if (a19 == 10)=true then(some ((true,()),w)) else(if (a19 == 13)=true then(some ((true,()),w)) else(some (((a19 == 45),()),w)))))
noncomputable def K_6p (K:Nat) (c9:Int) (w:World):Option ((Bool×Unit)×World):=
 if (decide (c9≥65))=true then(some (((decide (c9≤90)),()),w)) else(some ((false,()),w))
noncomputable def K_9n (K:Nat) (word5:Addr) (end7:Value) (c9:Int) (a19:Int) (w:World):Option ((Unit)×World):=
 bnd (K_6q K a19 (a19 == 32) w) fun y_9 w_10=>
 if y_9.1=true then(dyn (tab (K_am K)) end7 [] w_10 fun v_11 w_12=>
 some ((),w_12)) else(bnd (K_6p K c9 w_10) fun y_13 w_14=>
 if y_13.1=true then((ldS word5 w_14).bind fun v_15=>
 bnd (bldS prog 23 1 #[(0,(.int .u8 (IntKind.u8.wrap (c9+32))))] w_14) fun s_16 w_17=>
 bnd (apd prog 23 23 (.slice v_15.a v_15.len v_15.cap) (.slice s_16.a s_16.len s_16.cap) w_17) fun s_18 w_19=>
 (stC word5 (.slice s_18.a s_18.len s_18.cap) w_19).bind fun w_20=>
 some ((),w_20)) else((ldS word5 w_14).bind fun v_21=>
 bnd (bldS prog 23 1 #[(0,(.int .u8 c9))] w_14) fun s_22 w_23=>
 bnd (apd prog 23 23 (.slice v_21.a v_21.len v_21.cap) (.slice s_22.a s_22.len s_22.cap) w_23) fun s_24 w_25=>
 (stC word5 (.slice s_24.a s_24.len s_24.cap) w_25).bind fun w_26=>
 some ((),w_26)))
noncomputable def K_57 (K:Nat) (rec:ByteArray→Addr→Addr→Addr→Value→Int→Int→World→Option ((Out (Unit) (Sl×Bool×Unit))×World)) (text0:ByteArray) (out4:Addr) (word5:Addr) (ok6:Addr) (end7:Value) (a12:Int) (a13:Int) (w:World):Option ((Out (Unit) (Sl×Bool×Unit))×World):=
 if (decide (a13<a12))=true then(if (0:Int)≤a13 then((text0[(Int.toNat a13)]?).bind fun b_8=>
 bnd (K_9n K word5 end7 ((b_8.toNat:Nat):Int) ((b_8.toNat:Nat):Int) w) fun y_27 w_28=>
 (ldB ok6 w_28).bind fun v_29=>
 if (!v_29)=true then(some (.ret (⟨none,0,0⟩,false,()),w_28)) else(rec text0 out4 word5 ok6 end7 a12 (IntKind.i64.wrap (a13+1)) w_28)) else none) else(some (.norm (),w))
noncomputable def K_u (K:Nat) (n:Nat):ByteArray→Addr→Addr→Addr→Value→Int→Int→World→Option ((Out (Unit) (Sl×Bool×Unit))×World):=iter (fun _ _ _ _ _ _ _ _=>none) (K_57 K) n
noncomputable def K_71 (K:Nat) (text0:ByteArray) (w:World):Option ((Sl×Bool×Unit)×World):=
 bnd (newB z23 23 w) fun out_1 w_2=>
 bnd (newB z23 23 w_2) fun word_3 w_4=>
 bnd (newB z4 4 w_4) fun ok_5 w_6=>
 (stC ok_5 (.bool true) w_6).bind fun w_7=>
 bnd (K_u K K text0 out_1 word_3 ok_5 (.func (.func 120) #[] #[(.pointer (some word_3)),(.pointer (some ok_5)),(.pointer (some out_1))]) ((text0.size:Nat):Int) 0 w_7) fun y_30 w_31=>
 (match y_30 with
 | .norm z_32n=>(dyn (tab (K_am K)) (.func (.func 120) #[] #[(.pointer (some word_3)),(.pointer (some ok_5)),(.pointer (some out_1))]) [] w_31 fun v_33 w_34=>
 (ldS out_1 w_34.drew).bind fun v_35=>
 (ldB ok_5 w_34.drew).bind fun v_36=>
 some ((v_35,v_36,()),w_34.drew))
 | .ret z_32r=>(some ((z_32r.1,z_32r.2.1,()),w_31)))
theorem K_s8(K:Nat):StmtNOk prog [(19,.int .u8),(32,.bool)] [(32,.bool)] [(32,33),(34,38)] (fun x w=>K_6q K x.1 x.2.1 w) (cd (bodyOf f95) [1,1,1,1,1,0,1,0,0,1,1,0,0,1,0,1,1,0,0,1]):=
  K_g (O:=tabL []) (root:=(bodyOf f95)) (π:=[1,1,1,1,1,0,1,0,0,1,1,0,0,1,0,1,1,0,0,1]) (K_5v K) (K_5t K) rfl (Orc.nil _ _ _) (by kernel_rfl) (fun _ _=>by kernel_rfl)
noncomputable def K_6y (K:Nat):SE:=stmtN [(19,.int .u8),(32,.bool)] [(32,.bool)] [(32,33),(34,38)] (fun x w=>K_6q K x.1 x.2.1 w)
theorem K_92(K:Nat)(R:Rg)(h:subRB [(32,33),(34,38)] R=true):(K_6y K).Ok prog R (cd (bodyOf f95) [1,1,1,1,1,0,1,0,0,1,1,0,0,1,0,1,1,0,0,1]):=K_2 (K_s8 K) (K_0 h)
theorem K_s5(K:Nat):StmtNOk prog [(9,.int .u8)] [(25,.bool)] [(20,26)] (fun x w=>K_6p K x.1 w) (cd (bodyOf f95) [1,1,1,1,1,0,1,0,0,1,1,0,0,1,0,1,1,0,1,1,0,0]):=
  K_g (O:=tabL []) (root:=(bodyOf f95)) (π:=[1,1,1,1,1,0,1,0,0,1,1,0,0,1,0,1,1,0,1,1,0,0]) (K_5v K) (K_5t K) rfl (Orc.nil _ _ _) (by kernel_rfl) (fun _ _=>by kernel_rfl)
noncomputable def K_6z (K:Nat):SE:=stmtN [(9,.int .u8)] [(25,.bool)] [(20,26)] (fun x w=>K_6p K x.1 w)
theorem K_8h(K:Nat)(R:Rg)(h:subRB [(20,26)] R=true):(K_6z K).Ok prog R (cd (bodyOf f95) [1,1,1,1,1,0,1,0,0,1,1,0,0,1,0,1,1,0,1,1,0,0]):=K_2 (K_s5 K) (K_0 h)
theorem K_ss(K:Nat):StmtNOk prog [(5,.addr),(7,.val),(9,.int .u8),(19,.int .u8)] [] [(9,10),(20,40)] (fun x w=>K_9n K x.1 x.2.1 x.2.2.1 x.2.2.2.1 w) (cd (bodyOf f95) [1,1,1,1,1,0,1,0,0,1,1,0,0,1,0,1,1]):=
  K_g (O:=tabL [([1,1,1,1,1,0,1,0,0,1,1,0,0,1,0,1,1,0,0,1],K_6y K),([1,1,1,1,1,0,1,0,0,1,1,0,0,1,0,1,1,0,1,1,0,0],K_6z K)]) (root:=(bodyOf f95)) (π:=[1,1,1,1,1,0,1,0,0,1,1,0,0,1,0,1,1]) (K_5v K) (K_5t K) rfl (Orc.cons (by kernel_rfl) (K_92 K [(9,10),(20,40)] (by kernel_rfl)) (Orc.cons (by kernel_rfl) (K_8h K [(9,10),(20,40)] (by kernel_rfl)) (Orc.nil _ _ _))) (by kernel_rfl) (fun _ _=>by kernel_rfl)
noncomputable def K_b4 (K:Nat):SE:=stmtN [(5,.addr),(7,.val),(9,.int .u8),(19,.int .u8)] [] [(9,10),(20,40)] (fun x w=>K_9n K x.1 x.2.1 x.2.2.1 x.2.2.2.1 w)
theorem K_eh(K:Nat)(R:Rg)(h:subRB [(9,10),(20,40)] R=true):(K_b4 K).Ok prog R (cd (bodyOf f95) [1,1,1,1,1,0,1,0,0,1,1,0,0,1,0,1,1]):=K_2 (K_ss K) (K_0 h)
theorem K_st(K:Nat)(n:Nat):StmtOk prog [(0,.str),(4,.addr),(5,.addr),(6,.addr),(7,.val),(12,.int .i64),(13,.int .i64)] [] [(2,.sl),(3,.bool)] [(2,4),(8,10),(13,43)] ((fun n x w=>K_u K n x.1 x.2.1 x.2.2.1 x.2.2.2.1 x.2.2.2.2.1 x.2.2.2.2.2.1 x.2.2.2.2.2.2.1 w) n) (.block 0 (.loop (cd (bodyOf f95) [1,1,1,1,1,0,1,0,0]))):=
  K_26 (O:=tabL [([1,1,1,1,1,0,1,0,0,1,1,0,0,1,0,1,1],K_b4 K),([1,1,1,1,1,0,1,0,0,1,1,0,0,1,0,1,1,0,0,1],K_6y K),([1,1,1,1,1,0,1,0,0,1,1,0,0,1,0,1,1,0,1,1,0,0],K_6z K)]) (root:=(bodyOf f95)) (π:=[1,1,1,1,1,0,1,0,0]) (Li:=[(0,.str),(4,.addr),(5,.addr),(6,.addr),(7,.val),(12,.int .i64),(13,.int .i64)]) (Lo:=[]) (Lr:=[(2,.sl),(3,.bool)]) (S:=(fun n x w=>K_u K n x.1 x.2.1 x.2.2.1 x.2.2.2.1 x.2.2.2.2.1 x.2.2.2.2.2.1 x.2.2.2.2.2.2.1 w)) (K_5v K) (K_5t K) rfl (Orc.cons (by kernel_rfl) (K_eh K [(2,4),(8,10),(13,43)] (by kernel_rfl)) (Orc.cons (by kernel_rfl) (K_92 K [(2,4),(8,10),(13,43)] (by kernel_rfl)) (Orc.cons (by kernel_rfl) (K_8h K [(2,4),(8,10),(13,43)] (by kernel_rfl)) (Orc.nil _ _ _)))) (by kernel_rfl) (fun _ _=>by kernel_rfl) (fun _ _ _=>by kernel_rfl) n
noncomputable def K_h3 (K:Nat):SE:=stmt [(0,.str),(4,.addr),(5,.addr),(6,.addr),(7,.val),(12,.int .i64),(13,.int .i64)] [] [(2,.sl),(3,.bool)] [(2,4),(8,10),(13,43)] (fun x w=>K_u K K x.1 x.2.1 x.2.2.1 x.2.2.2.1 x.2.2.2.2.1 x.2.2.2.2.2.1 x.2.2.2.2.2.2.1 w)
theorem K_ne(K:Nat)(R:Rg)(h:subRB [(2,4),(8,10),(13,43)] R=true):(K_h3 K).Ok prog R (.block 0 (.loop (cd (bodyOf f95) [1,1,1,1,1,0,1,0,0]))):=K_1o (K_st K K) (K_0 h)
theorem K_gn:FunFacts prog 95 f95 (bodyOf f95) [(0,.str)] [(0,47)]:=⟨func95,by kernel_rfl,by kernel_rfl,by kernel_rfl,by kernel_rfl,by kernel_rfl⟩
theorem K_sk(K:Nat)(x:TT [(0,.str)])(w:World)(y:TR [.sl,.bool])(w2:World)(h:K_71 K x.1 w=some (y,w2)):Calls prog 95 (encA [(0,.str)] x).toArray w (fun e w3=>e= .returned (resV (encR [.sl,.bool] y))∧w3=w2):=
  K_b (O:=tabL [([1,1,1,1,1,0,1],K_h3 K),([1,1,1,1,1,0,1,0,0,1,1,0,0,1,0,1,1],K_b4 K),([1,1,1,1,1,0,1,0,0,1,1,0,0,1,0,1,1,0,0,1],K_6y K),([1,1,1,1,1,0,1,0,0,1,1,0,0,1,0,1,1,0,1,1,0,0],K_6z K)]) (Lp:=[(0,.str)]) (Rt:=[.sl,.bool]) (S:=(fun x w=>K_71 K x.1 w)) (K_5v K) (K_5t K) rfl K_gn (Orc.cons (by kernel_rfl) (K_ne K [(0,47)] (by kernel_rfl)) (Orc.cons (by kernel_rfl) (K_eh K [(0,47)] (by kernel_rfl)) (Orc.cons (by kernel_rfl) (K_92 K [(0,47)] (by kernel_rfl)) (Orc.cons (by kernel_rfl) (K_8h K [(0,47)] (by kernel_rfl)) (Orc.nil _ _ _))))) (fun _ _=>by kernel_rfl) x w y w2 h
noncomputable def K_l8 (K:Nat):CE:=funE [(0,.str)] [.sl,.bool] (fun x w=>K_71 K x.1 w)
theorem K_ya(K:Nat):(K_l8 K).Ok prog 95:=K_8 K_gn fun x w y w2 h=>K_sk K x w y w2 h
noncomputable def K_151 (K:Nat):List (Nat×CE):=[]
theorem K_fo(K:Nat):Env.Ok prog (tab (K_151 K)):=(Env.nil _)
noncomputable def K_14m (K:Nat):List (Nat×RE):=[(124,K_dk K),(61,K_2f K)]
theorem K_fj(K:Nat):REnv.Ok prog (tab (K_14m K)):=(REnv.cons (K_hs K) (REnv.cons (K_3h K) (REnv.nil _)))
noncomputable def K_66 (K:Nat) (rec:Sl→Addr→Addr→Int→Int→Int→Sl→Int→Int→World→Option ((Unit)×World)) (b0:Sl) (a2:Addr) (s3:Addr) (j4:Int) (x5:Int) (a8:Int) (a13:Sl) (a14:Int) (a15:Int) (w:World):Option ((Unit)×World):=
 if (decide (a15<a14))=true then((a13.a).bind fun p_6=>
 if (0:Int)≤a15∧a15<((a13.len:Nat):Int) then((ldI .u8 (p_6.add ((Int.toNat a15)*1)) w).bind fun v_7=>
 if (0:Int)≤j4∧j4<((4:Nat):Int) then((ldI .u8 (s3.add ((Int.toNat j4)*1)) w).bind fun v_8=>
 (K_l K v_8 x5).bind fun r_9=>
 if (0:Int)≤j4∧j4<((4:Nat):Int) then((stC (s3.add ((Int.toNat j4)*1)) (.int .u8 (bits .xor .u8 r_9.1 v_7)) w).bind fun w_10=>
 rec b0 a2 s3 j4 x5 a8 a13 a14 (IntKind.i64.wrap (a15+1)) w_10) else none) else none) else none) else(some ((),w))
noncomputable def K_28 (K:Nat) (n:Nat):Sl→Addr→Addr→Int→Int→Int→Sl→Int→Int→World→Option ((Unit)×World):=iter (fun _ _ _ _ _ _ _ _ _ _=>none) (K_66 K) n
noncomputable def K_6k (K:Nat) (rec:Sl→Addr→Addr→Int→World→Option ((Unit)×World)) (b0:Sl) (a2:Addr) (s3:Addr) (a8:Int) (w:World):Option ((Unit)×World):=
 if (decide (a8<4))=true then((K_5c K a8).bind fun r_5=>
 bnd (K_28 K K b0 a2 s3 a8 r_5.1 a8 b0 ((b0.len:Nat):Int) 0 w) fun y_11 w_12=>
 rec b0 a2 s3 (IntKind.i64.wrap (a8+1)) w_12) else(some ((),w))
noncomputable def K_10 (K:Nat) (n:Nat):Sl→Addr→Addr→Int→World→Option ((Unit)×World):=iter (fun _ _ _ _ _=>none) (K_6k K) n
noncomputable def K_43 (K:Nat) (b0:Sl) (w:World):Option (((Array Value)×Unit)×World):=
 bnd (newB z170 170 w) fun p_1 w_2=>
 bnd (newB z170 170 w_2) fun s_3 w_4=>
 bnd (K_10 K K b0 p_1 s_3 0 w_4) fun y_13 w_14=>
 (ldA 4 s_3 w_14).bind fun v_15=>
 if (v_15).size=4 then((stA p_1 v_15 w_14).bind fun w_16=>
 (ldA 4 p_1 w_16).bind fun res_17=>
 some ((res_17,()),w_16)) else none
theorem K_w7(K:Nat)(n:Nat):StmtNOk prog [(0,.sl),(2,.addr),(3,.addr),(4,.int .i64),(5,.int .u8),(8,.int .i64),(13,.sl),(14,.int .i64),(15,.int .i64)] [] [(7,8),(15,29)] ((fun n x w=>K_28 K n x.1 x.2.1 x.2.2.1 x.2.2.2.1 x.2.2.2.2.1 x.2.2.2.2.2.1 x.2.2.2.2.2.2.1 x.2.2.2.2.2.2.2.1 x.2.2.2.2.2.2.2.2.1 w) n) (.block 2 (.loop (cd (bodyOf f122) [1,1,0,1,0,0,1,1,0,0,1,1,1,0,0]))):=
  K_4 (O:=tabL []) (root:=(bodyOf f122)) (π:=[1,1,0,1,0,0,1,1,0,0,1,1,1,0,0]) (Li:=[(0,.sl),(2,.addr),(3,.addr),(4,.int .i64),(5,.int .u8),(8,.int .i64),(13,.sl),(14,.int .i64),(15,.int .i64)]) (Lo:=[]) (S:=(fun n x w=>K_28 K n x.1 x.2.1 x.2.2.1 x.2.2.2.1 x.2.2.2.2.1 x.2.2.2.2.2.1 x.2.2.2.2.2.2.1 x.2.2.2.2.2.2.2.1 x.2.2.2.2.2.2.2.2.1 w)) (K_fo K) (K_fj K) rfl (Orc.nil _ _ _) (by kernel_rfl) (fun _ _=>by kernel_rfl) (fun _ _ _=>by kernel_rfl) n
noncomputable def K_db (K:Nat):SE:=stmtN [(0,.sl),(2,.addr),(3,.addr),(4,.int .i64),(5,.int .u8),(8,.int .i64),(13,.sl),(14,.int .i64),(15,.int .i64)] [] [(7,8),(15,29)] (fun x w=>K_28 K K x.1 x.2.1 x.2.2.1 x.2.2.2.1 x.2.2.2.2.1 x.2.2.2.2.2.1 x.2.2.2.2.2.2.1 x.2.2.2.2.2.2.2.1 x.2.2.2.2.2.2.2.2.1 w)
theorem K_fu(K:Nat)(R:Rg)(h:subRB [(7,8),(15,29)] R=true):(K_db K).Ok prog R (.block 2 (.loop (cd (bodyOf f122) [1,1,0,1,0,0,1,1,0,0,1,1,1,0,0]))):=K_2 (K_w7 K K) (K_0 h)
theorem K_wd(K:Nat)(n:Nat):StmtNOk prog [(0,.sl),(2,.addr),(3,.addr),(8,.int .i64)] [] [(4,6),(7,30)] ((fun n x w=>K_10 K n x.1 x.2.1 x.2.2.1 x.2.2.2.1 w) n) (.block 0 (.loop (cd (bodyOf f122) [1,1,0,1,0,0]))):=
  K_4 (O:=tabL [([1,1,0,1,0,0,1,1,0,0,1,1,1],K_db K)]) (root:=(bodyOf f122)) (π:=[1,1,0,1,0,0]) (Li:=[(0,.sl),(2,.addr),(3,.addr),(8,.int .i64)]) (Lo:=[]) (S:=(fun n x w=>K_10 K n x.1 x.2.1 x.2.2.1 x.2.2.2.1 w)) (K_fo K) (K_fj K) rfl (Orc.cons (by kernel_rfl) (K_fu K [(4,6),(7,30)] (by kernel_rfl)) (Orc.nil _ _ _)) (by kernel_rfl) (fun _ _=>by kernel_rfl) (fun _ _ _=>by kernel_rfl) n
noncomputable def K_j7 (K:Nat):SE:=stmtN [(0,.sl),(2,.addr),(3,.addr),(8,.int .i64)] [] [(4,6),(7,30)] (fun x w=>K_10 K K x.1 x.2.1 x.2.2.1 x.2.2.2.1 w)
theorem K_r2(K:Nat)(R:Rg)(h:subRB [(4,6),(7,30)] R=true):(K_j7 K).Ok prog R (.block 0 (.loop (cd (bodyOf f122) [1,1,0,1,0,0]))):=K_2 (K_wd K K) (K_0 h)
theorem K_ik:FunFacts prog 122 f122 (bodyOf f122) [(0,.sl)] [(0,31)]:=⟨func122,by kernel_rfl,by kernel_rfl,by kernel_rfl,by kernel_rfl,by kernel_rfl⟩
theorem K_wb(K:Nat)(x:TT [(0,.sl)])(w:World)(y:TR [.agg])(w2:World)(h:K_43 K x.1 w=some (y,w2)):Calls prog 122 (encA [(0,.sl)] x).toArray w (fun e w3=>e= .returned (resV (encR [.agg] y))∧w3=w2):=
  K_b (O:=tabL [([1,1,0,1],K_j7 K),([1,1,0,1,0,0,1,1,0,0,1,1,1],K_db K)]) (Lp:=[(0,.sl)]) (Rt:=[.agg]) (S:=(fun x w=>K_43 K x.1 w)) (K_fo K) (K_fj K) rfl K_ik (Orc.cons (by kernel_rfl) (K_r2 K [(0,31)] (by kernel_rfl)) (Orc.cons (by kernel_rfl) (K_fu K [(0,31)] (by kernel_rfl)) (Orc.nil _ _ _))) (fun _ _=>by kernel_rfl) x w y w2 h
noncomputable def K_oq (K:Nat):CE:=funE [(0,.sl)] [.agg] (fun x w=>K_43 K x.1 w)
theorem K_134(K:Nat):(K_oq K).Ok prog 122:=K_8 K_ik fun x w y w2 h=>K_wb K x w y w2 h
noncomputable def K_12w (K:Nat):List (Nat×RE):=[(61,K_2f K)]
theorem K_kw(K:Nat):REnv.Ok prog (tab (K_12w K)):=(REnv.cons (K_3h K) (REnv.nil _))
noncomputable def K_5w (K:Nat) (rec:Int→Int→Int→Option (Out (Int×Unit) (Int×Unit))) (b0:Int) (v3:Int) (a4:Int):Option (Out (Int×Unit) (Int×Unit)):=
 if (decide (a4<7))=true then((K_l K b0 b0).bind fun r_1=>
 (K_l K v3 r_1.1).bind fun r_2=>
 rec r_1.1 r_2.1 (IntKind.i64.wrap (a4+1))) else(some (.norm (v3,())))
noncomputable def K_2h (K:Nat) (n:Nat):Int→Int→Int→Option (Out (Int×Unit) (Int×Unit)):=iter (fun _ _ _=>none) (K_5w K) n
noncomputable def K_64 (K:Nat) (b0:Int):Option (Int×Unit):=
 (K_2h K K b0 1 0).bind fun y_3=>
 (match y_3 with
 | .norm z_4n=>(some (z_4n.1,()))
 | .ret z_4r=>(some (z_4r.1,())))
theorem K_u0(K:Nat)(n:Nat):StmtQOk prog [(0,.int .u8),(3,.int .u8),(4,.int .i64)] [(3,.int .u8)] [(2,.int .u8)] [(0,1),(3,13)] ((fun n x w=>K_2h K n x.1 x.2.1 x.2.2.1) n) (.block 0 (.loop (cd (bodyOf f87) [1,1,0,1,0,0]))):=
  K_c1 (O:=tabL []) (root:=(bodyOf f87)) (π:=[1,1,0,1,0,0]) (Li:=[(0,.int .u8),(3,.int .u8),(4,.int .i64)]) (Lo:=[(3,.int .u8)]) (Lr:=[(2,.int .u8)]) (S:=(fun n x w=>K_2h K n x.1 x.2.1 x.2.2.1)) (K_kw K) (OrcQ.nil _ _ _) (by kernel_rfl) (fun _ _=>by kernel_rfl) (fun _ _ _=>by kernel_rfl) n
noncomputable def K_i6 (K:Nat):SQ:=stmtQ [(0,.int .u8),(3,.int .u8),(4,.int .i64)] [(3,.int .u8)] [(2,.int .u8)] [(0,1),(3,13)] (fun x w=>K_2h K K x.1 x.2.1 x.2.2.1)
theorem K_ph(K:Nat)(R:Rg)(h:subRB [(0,1),(3,13)] R=true):(K_i6 K).Ok prog R (.block 0 (.loop (cd (bodyOf f87) [1,1,0,1,0,0]))):=K_8r (K_u0 K K) (K_0 h)
theorem K_hi:FunFacts prog 87 f87 (bodyOf f87) [(0,.int .u8)] [(0,14)]:=⟨func87,by kernel_rfl,by kernel_rfl,by kernel_rfl,by kernel_rfl,by kernel_rfl⟩
theorem K_tm(K:Nat)(x:TT [(0,.int .u8)])(w:World)(y:TR [.int .u8])(h:K_64 K x.1=some y):Calls prog 87 (encA [(0,.int .u8)] x).toArray w (fun e w3=>e= .returned (resV (encR [.int .u8] y))∧w3=w):=
  K_4j (O:=tabL [([1,1,0,1],K_i6 K)]) (Lp:=[(0,.int .u8)]) (Rt:=[.int .u8]) (S:=(fun x w=>K_64 K x.1)) (K_kw K) K_hi (OrcQ.cons (by kernel_rfl) (K_ph K [(0,14)] (by kernel_rfl)) (OrcQ.nil _ _ _)) (fun _ _=>by kernel_rfl) x w y h
noncomputable def K_fi (K:Nat):RE:=funR [(0,.int .u8)] [.int .u8] (fun x w=>K_64 K x.1)
theorem K_mb(K:Nat):(K_fi K).Ok prog 87:=K_4x K_hi fun x w y h=>K_tm K x w y h
noncomputable def K_191 (K:Nat):List (Nat×RE):=[(87,K_fi K),(61,K_2f K)]
theorem K_148(K:Nat):REnv.Ok prog (tab (K_191 K)):=(REnv.cons (K_mb K) (REnv.cons (K_3h K) (REnv.nil _)))
noncomputable def K_65 (K:Nat) (a0:Int) (b1:Int):Option (Int×Unit):=
 (K_64 K b1).bind fun r_1=>
 (K_l K a0 r_1.1).bind fun r_2=>
 some (r_2.1,())
theorem K_mm:FunFacts prog 123 f123 (bodyOf f123) [(0,.int .u8),(1,.int .u8)] [(0,9)]:=⟨func123,by kernel_rfl,by kernel_rfl,by kernel_rfl,by kernel_rfl,by kernel_rfl⟩
theorem K_10c(K:Nat)(x:TT [(0,.int .u8),(1,.int .u8)])(w:World)(y:TR [.int .u8])(h:K_65 K x.1 x.2.1=some y):Calls prog 123 (encA [(0,.int .u8),(1,.int .u8)] x).toArray w (fun e w3=>e= .returned (resV (encR [.int .u8] y))∧w3=w):=
  K_4j (O:=tabL []) (Lp:=[(0,.int .u8),(1,.int .u8)]) (Rt:=[.int .u8]) (S:=(fun x w=>K_65 K x.1 x.2.1)) (K_148 K) K_mm (OrcQ.nil _ _ _) (fun _ _=>by kernel_rfl) x w y h
noncomputable def K_rc (K:Nat):RE:=funR [(0,.int .u8),(1,.int .u8)] [.int .u8] (fun x w=>K_65 K x.1 x.2.1)
theorem K_179(K:Nat):(K_rc K).Ok prog 123:=K_4x K_mm fun x w y h=>K_10c K x w y h
end Go.Sh
