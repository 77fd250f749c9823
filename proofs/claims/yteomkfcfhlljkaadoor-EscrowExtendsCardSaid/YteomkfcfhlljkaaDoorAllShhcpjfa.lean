/- Texts of this claim, put together: Sh14 -/
import Derived.Test.YteomkfcfhlljkaaDoorAllShpoegam
set_option maxRecDepth 100000
set_option linter.unusedVariables false
namespace Go.Sh
open Go.Fw Go.Proofs.Tryd
noncomputable def K_iy (K:Nat):List (Nat×CE):=[(32,K_cn K),(33,K_m1 K),(29,K_gh K),(13,K_82 K),(16,K_9i K),(28,K_da K),(30,K_aa K)]
theorem K_z(K:Nat):Env.Ok prog (tab (K_iy K)):=(Env.cons (K_mk K) (Env.cons (K_ul K) (Env.cons (K_r0 K) (Env.cons (K_cf K) (Env.cons (K_dc K) (Env.cons (K_ja K) (Env.cons (K_er K) (Env.nil _))))))))
noncomputable def K_k2 (K:Nat):List (Nat×RE):=[(19,K_c7)]
theorem K_11(K:Nat):REnv.Ok prog (tab (K_k2 K)):=(REnv.cons (K_gv) (REnv.nil _))
noncomputable def K_2r (K:Nat) (index2:Int) (ok8:Bool) (w:World):Option ((Bool×Unit)×World):=
 bnd (K_7o K w) fun r_7 w_8=>
 if (!r_7.1)=true then(some ((true,()),w_8)) else(if (!ok8)=true then(some ((true,()),w_8)) else(some (((index2 == 0),()),w_8)))
noncomputable def K_2q (K:Nat) (a6:Bool) (ok8:Bool) (w:World):Option ((Bool×Unit)×World):=
 bnd (K_7o K w) fun r_11 w_12=>
 if r_11.1=true then(some ((ok8,()),w_12)) else(some ((false,()),w_12))
noncomputable def K_1z (K:Nat) (rec:Int→Int→Addr→Sl→Sl→Int→World→Option ((Sl×Unit)×World)) (from1:Int) (index2:Int) (d3:Addr) (l7:Sl) (mine9:Sl) (i10:Int) (w:World):Option ((Sl×Unit)×World):=
 (ldI .i64 (d3.add 2) w).bind fun v_15=>
 if (decide (i10<v_15))=true then(if (IntKind.u64.wrap ((l7.len:Nat):Int))≠0 then(if ((l7.len:Nat):Int)≠0 then((l7.a).bind fun p_16=>
 if (0:Int)≤(Int.tmod (IntKind.i64.wrap (IntKind.u64.wrap ((Int.tmod (IntKind.u64.wrap from1) (IntKind.u64.wrap ((l7.len:Nat):Int)))+(IntKind.u64.wrap i10)))) ((l7.len:Nat):Int))∧(Int.tmod (IntKind.i64.wrap (IntKind.u64.wrap ((Int.tmod (IntKind.u64.wrap from1) (IntKind.u64.wrap ((l7.len:Nat):Int)))+(IntKind.u64.wrap i10)))) ((l7.len:Nat):Int))<((l7.len:Nat):Int) then((ldStr (p_16.add ((Int.toNat (Int.tmod (IntKind.i64.wrap (IntKind.u64.wrap ((Int.tmod (IntKind.u64.wrap from1) (IntKind.u64.wrap ((l7.len:Nat):Int)))+(IntKind.u64.wrap i10)))) ((l7.len:Nat):Int)))*1)) w).bind fun v_17=>
 bnd (bldS prog 29 1 #[(0,(.string v_17))] w) fun s_18 w_19=>
 bnd (apd prog 29 29 (.slice mine9.a mine9.len mine9.cap) (.slice s_18.a s_18.len s_18.cap) w_19) fun s_20 w_21=>
 rec from1 index2 d3 l7 s_20 (IntKind.i64.wrap (i10+1)) w_21) else none) else none) else none) else(some ((mine9,()),w))
noncomputable def K_w (K:Nat) (n:Nat):Int→Int→Addr→Sl→Sl→Int→World→Option ((Sl×Unit)×World):=iter (fun _ _ _ _ _ _ _=>none) (K_1z K) n
noncomputable def K_2s (K:Nat) (d3:Addr) (most13:Int) (a75:Bool) (w:World):Option ((Int×Unit)×World):=
 if a75=true then((ldI .i64 (d3.add 2) w).bind fun v_27=>
 some ((v_27,()),w)) else(some ((most13,()),w))
noncomputable def K_2t (K:Nat) (d3:Addr) (most13:Int) (w:World):Option ((Sl×Int×Unit)×World):=
 (ldI .u16 (d3.add 0) w.drew).bind fun v_30=>
 (ldS (d3.add 1) w.drew).bind fun v_31=>
 (ldI .i64 (d3.add 2) w.drew).bind fun v_32=>
 (ldA 6 d3 w.drew).bind fun v_33=>
 bnd (K_2b K v_33 w.drew) fun r_34 w_35=>
 (ldA 6 d3 w_35).bind fun v_36=>
 sameK (.agg v_33) (.agg v_36) ((ldI .i64 (d3.add 2) w_35).bind fun v_37=>
 sameK (.int .i64 v_32) (.int .i64 v_37) ((ldS (d3.add 1) w_35).bind fun v_38=>
 sameK (.slice v_31.a v_31.len v_31.cap) (.slice v_38.a v_38.len v_38.cap) ((ldI .u16 (d3.add 0) w_35).bind fun v_39=>
 sameK (.int .u16 v_30) (.int .u16 v_39) (bnd (K_4g K v_30 v_31 v_32 most13 r_34.1 w_35) fun r_40 w_41=>
 (ldA 6 d3 w_41).bind fun v_42=>
 sameK (.agg v_33) (.agg v_42) ((ldI .i64 (d3.add 2) w_41).bind fun v_43=>
 sameK (.int .i64 v_32) (.int .i64 v_43) ((ldS (d3.add 1) w_41).bind fun v_44=>
 sameK (.slice v_31.a v_31.len v_31.cap) (.slice v_44.a v_44.len v_44.cap) ((ldI .u16 (d3.add 0) w_41).bind fun v_45=>
 sameK (.int .u16 v_30) (.int .u16 v_45) (some ((r_40.1,r_40.2.1,()),w_41)))))))))
noncomputable def K_2p (K:Nat) (index2:Int) (s11:ByteArray) (e12:Int) (most13:Int) (all14:Sl) (f15:Int) (w:World):Option ((Bool×Unit)×World):=
 (K_25 e12).bind fun r_48=>
 if (r_48.1 != 0)=true then(some ((true,()),w)) else((K_25 f15).bind fun r_49=>
 if (r_49.1 != 0)=true then(some ((true,()),w)) else(if (((all14.len:Nat):Int) != most13)=true then(some ((true,()),w)) else((all14.a).bind fun p_50=>
 if (0:Int)≤(IntKind.i64.wrap ((IntKind.i64.wrap index2) - 1))∧(IntKind.i64.wrap ((IntKind.i64.wrap index2) - 1))<((all14.len:Nat):Int) then((ldStr (p_50.add ((Int.toNat (IntKind.i64.wrap ((IntKind.i64.wrap index2) - 1)))*1)) w).bind fun v_51=>
 some (((!(s11.toList == v_51.toList)),()),w)) else none)))
noncomputable def K_6a (K:Nat) (d0:Array Value) (from1:Int) (index2:Int) (w:World):Option ((Bool×Unit)×World):=
 bnd (newB d0 25 w) fun p_1 w_2=>
 (ldA 6 p_1 w_2).bind fun v_3=>
 bnd (K_4b K v_3 w_2) fun r_4 w_5=>
 if (r_4.1).size=6 then((stA p_1 r_4.1 w_5).bind fun w_6=>
 bnd (K_2r K index2 r_4.2.2.1 w_6) fun y_9 w_10=>
 if y_9.1=true then(bnd (K_2q K false r_4.2.2.1 w_10) fun y_13 w_14=>
 some ((y_13.1,()),w_14)) else(bnd (K_w K K from1 index2 p_1 r_4.2.1 ⟨none,0,0⟩ 0 w_10) fun y_22 w_23=>
 bnd (K_6e K (IntKind.i64.wrap index2) y_22.1 w_23) fun r_24 w_25=>
 (ldI .i64 (p_1.add 2) w_25).bind fun v_26=>
 bnd (K_2s K p_1 (IntKind.i64.wrap index2) (decide ((IntKind.i64.wrap index2)<v_26)) w_25) fun y_28 w_29=>
 bnd (K_2t K p_1 y_28.1 w_29) fun y_46 w_47=>
 bnd (K_2p K index2 r_24.1 r_24.2.1 y_28.1 y_46.1 y_46.2.1 w_47) fun y_52 w_53=>
 if y_52.1=true then(some ((false,()),w_53)) else(if (0:Int)≤1∧1≤((y_22.1.len:Nat):Int) then((y_22.1.a).bind fun p_54=>
 if (0:Int)≤0∧0<((y_22.1.len:Nat):Int) then((ldStr (p_54.add (0*1)) w_53.drew).bind fun v_55=>
 bnd (bldS prog 29 2 #[(0,(.string r_24.1)),(1,(.string v_55))] w_53.drew) fun s_56 w_57=>
 bnd (apd prog 29 29 (.slice (sla y_22.1.a 1 y_22.1.cap 1) (y_22.1.len - 1) (y_22.1.cap - 1)) (.slice s_56.a s_56.len s_56.cap) w_57) fun s_58 w_59=>
 bnd (K_3j K s_58 w_59) fun r_60 w_61=>
 (K_25 r_60.2.1).bind fun r_62=>
 if (r_62.1 == 0)=true then((ldS (p_1.add 1) w_61).bind fun v_63=>
 bnd (K_39 K r_60.1 v_63 w_61) fun r_64 w_65=>
 some ((r_64.1,()),w_65)) else(some ((false,()),w_61))) else none) else none))) else none
theorem K_fl(K:Nat):StmtNOk prog [(2,.int .u8),(8,.bool)] [(33,.bool)] [(24,34)] (fun x w=>K_2r K x.1 x.2.1 w) (cd (bodyOf f10) [1,1,0,0]):=
  K_17 (O:=tabL []) (root:=(bodyOf f10)) (π:=[1,1,0,0]) (K_z K) (K_11 K) rfl (Orc.nil _ _ _) (by kernel_rfl) (fun _ _=>by kernel_rfl)
noncomputable def K_8m (K:Nat):SE:=stmtN [(2,.int .u8),(8,.bool)] [(33,.bool)] [(24,34)] (fun x w=>K_2r K x.1 x.2.1 w)
theorem K_d9(K:Nat)(R:Rg)(h:subRB [(24,34)] R=true):(K_8m K).Ok prog R (cd (bodyOf f10) [1,1,0,0]):=K_2 (K_fl K) (K_1 h)
theorem K_fe(K:Nat):StmtNOk prog [(6,.bool),(8,.bool)] [(6,.bool)] [(6,7),(34,38)] (fun x w=>K_2q K x.1 x.2.1 w) (cd (bodyOf f10) [1,1,0,1,0,0]):=
  K_17 (O:=tabL []) (root:=(bodyOf f10)) (π:=[1,1,0,1,0,0]) (K_z K) (K_11 K) rfl (Orc.nil _ _ _) (by kernel_rfl) (fun _ _=>by kernel_rfl)
noncomputable def K_8o (K:Nat):SE:=stmtN [(6,.bool),(8,.bool)] [(6,.bool)] [(6,7),(34,38)] (fun x w=>K_2q K x.1 x.2.1 w)
theorem K_db(K:Nat)(R:Rg)(h:subRB [(6,7),(34,38)] R=true):(K_8o K).Ok prog R (cd (bodyOf f10) [1,1,0,1,0,0]):=K_2 (K_fe K) (K_1 h)
theorem K_fh(K:Nat)(n:Nat):StmtNOk prog [(1,.int .i64),(2,.int .u8),(3,.addr),(7,.sl),(9,.sl),(10,.int .i64)] [(9,.sl)] [(9,11),(38,63)] ((fun n x w=>K_w K n x.1 x.2.1 x.2.2.1 x.2.2.2.1 x.2.2.2.2.1 x.2.2.2.2.2.1 w) n) (.block 0 (.loop (cd (bodyOf f10) [1,1,1,1,0,1,0,0]))):=
  K_a (O:=tabL []) (root:=(bodyOf f10)) (π:=[1,1,1,1,0,1,0,0]) (Li:=[(1,.int .i64),(2,.int .u8),(3,.addr),(7,.sl),(9,.sl),(10,.int .i64)]) (Lo:=[(9,.sl)]) (S:=(fun n x w=>K_w K n x.1 x.2.1 x.2.2.1 x.2.2.2.1 x.2.2.2.2.1 x.2.2.2.2.2.1 w)) (K_z K) (K_11 K) rfl (Orc.nil _ _ _) (by kernel_rfl) (fun _ _=>by kernel_rfl) (fun _ _ _=>by kernel_rfl) n
noncomputable def K_8r (K:Nat):SE:=stmtN [(1,.int .i64),(2,.int .u8),(3,.addr),(7,.sl),(9,.sl),(10,.int .i64)] [(9,.sl)] [(9,11),(38,63)] (fun x w=>K_w K K x.1 x.2.1 x.2.2.1 x.2.2.2.1 x.2.2.2.2.1 x.2.2.2.2.2.1 w)
theorem K_d6(K:Nat)(R:Rg)(h:subRB [(9,11),(38,63)] R=true):(K_8r K).Ok prog R (.block 0 (.loop (cd (bodyOf f10) [1,1,1,1,0,1,0,0]))):=K_2 (K_fh K K) (K_1 h)
theorem K_fq(K:Nat):StmtNOk prog [(3,.addr),(13,.int .i64),(75,.bool)] [(13,.int .i64)] [(13,14),(76,78)] (fun x w=>K_2s K x.1 x.2.1 x.2.2.1 w) (cd (bodyOf f10) [1,1,1,1,1,1,1,0,1]):=
  K_17 (O:=tabL []) (root:=(bodyOf f10)) (π:=[1,1,1,1,1,1,1,0,1]) (K_z K) (K_11 K) rfl (Orc.nil _ _ _) (by kernel_rfl) (fun _ _=>by kernel_rfl)
noncomputable def K_8s (K:Nat):SE:=stmtN [(3,.addr),(13,.int .i64),(75,.bool)] [(13,.int .i64)] [(13,14),(76,78)] (fun x w=>K_2s K x.1 x.2.1 x.2.2.1 w)
theorem K_d1(K:Nat)(R:Rg)(h:subRB [(13,14),(76,78)] R=true):(K_8s K).Ok prog R (cd (bodyOf f10) [1,1,1,1,1,1,1,0,1]):=K_2 (K_fq K) (K_1 h)
theorem K_fo(K:Nat):StmtNOk prog [(3,.addr),(13,.int .i64)] [(14,.sl),(15,.int .i64)] [(14,16),(78,91)] (fun x w=>K_2t K x.1 x.2.1 w) (cd (bodyOf f10) [1,1,1,1,1,1,1,1,0]):=
  K_6j (K_z K) (K_11 K) rfl (fun _ _=>by kernel_rfl)
noncomputable def K_8t (K:Nat):SE:=stmtN [(3,.addr),(13,.int .i64)] [(14,.sl),(15,.int .i64)] [(14,16),(78,91)] (fun x w=>K_2t K x.1 x.2.1 w)
theorem K_dh(K:Nat)(R:Rg)(h:subRB [(14,16),(78,91)] R=true):(K_8t K).Ok prog R (cd (bodyOf f10) [1,1,1,1,1,1,1,1,0]):=K_2 (K_fo K) (K_1 h)
theorem K_fi(K:Nat):StmtNOk prog [(2,.int .u8),(11,.str),(12,.int .i64),(13,.int .i64),(14,.sl),(15,.int .i64)] [(114,.bool)] [(91,115)] (fun x w=>K_2p K x.1 x.2.1 x.2.2.1 x.2.2.2.1 x.2.2.2.2.1 x.2.2.2.2.2.1 w) (cd (bodyOf f10) [1,1,1,1,1,1,1,1,1,0,0]):=
  K_17 (O:=tabL []) (root:=(bodyOf f10)) (π:=[1,1,1,1,1,1,1,1,1,0,0]) (K_z K) (K_11 K) rfl (Orc.nil _ _ _) (by kernel_rfl) (fun _ _=>by kernel_rfl)
noncomputable def K_8i (K:Nat):SE:=stmtN [(2,.int .u8),(11,.str),(12,.int .i64),(13,.int .i64),(14,.sl),(15,.int .i64)] [(114,.bool)] [(91,115)] (fun x w=>K_2p K x.1 x.2.1 x.2.2.1 x.2.2.2.1 x.2.2.2.2.1 x.2.2.2.2.2.1 w)
theorem K_d2(K:Nat)(R:Rg)(h:subRB [(91,115)] R=true):(K_8i K).Ok prog R (cd (bodyOf f10) [1,1,1,1,1,1,1,1,1,0,0]):=K_2 (K_fi K) (K_1 h)
theorem K_fk:FunFacts prog 10 f10 (bodyOf f10) [(0,.agg),(1,.int .i64),(2,.int .u8)] [(0,136)]:=⟨func10,by kernel_rfl,by kernel_rfl,by kernel_rfl,by kernel_rfl,by kernel_rfl⟩
theorem K_fr(K:Nat)(x:TT [(0,.agg),(1,.int .i64),(2,.int .u8)])(w:World)(y:TR [.bool])(w2:World)(h:K_6a K x.1 x.2.1 x.2.2.1 w=some (y,w2)):Calls prog 10 (encA [(0,.agg),(1,.int .i64),(2,.int .u8)] x).toArray w (fun e w3=>e= .returned (resV (encR [.bool] y))∧w3=w2):=
  K_g (O:=tabL [([1,1,0,0],K_8m K),([1,1,0,1,0,0],K_8o K),([1,1,1,1,0,1],K_8r K),([1,1,1,1,1,1,1,0,1],K_8s K),([1,1,1,1,1,1,1,1,0],K_8t K),([1,1,1,1,1,1,1,1,1,0,0],K_8i K)]) (Lp:=[(0,.agg),(1,.int .i64),(2,.int .u8)]) (Rt:=[.bool]) (S:=(fun x w=>K_6a K x.1 x.2.1 x.2.2.1 w)) (K_z K) (K_11 K) rfl K_fk (Orc.cons (by kernel_rfl) (K_d9 K [(0,136)] (by kernel_rfl)) (Orc.cons (by kernel_rfl) (K_db K [(0,136)] (by kernel_rfl)) (Orc.cons (by kernel_rfl) (K_d6 K [(0,136)] (by kernel_rfl)) (Orc.cons (by kernel_rfl) (K_d1 K [(0,136)] (by kernel_rfl)) (Orc.cons (by kernel_rfl) (K_dh K [(0,136)] (by kernel_rfl)) (Orc.cons (by kernel_rfl) (K_d2 K [(0,136)] (by kernel_rfl)) (Orc.nil _ _ _))))))) (fun _ _=>by kernel_rfl) x w y w2 h
end Go.Sh
