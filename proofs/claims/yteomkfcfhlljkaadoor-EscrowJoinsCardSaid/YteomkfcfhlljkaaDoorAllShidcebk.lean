/- Texts of this claim, put together: Sh3, Sh4, Sh5, Sh6 -/
import Derived.Test.YteomkfcfhlljkaaDoorAllShamfbhc
set_option maxRecDepth 100000
set_option linter.unusedVariables false
namespace Go.Sh
open Go.Fw Go.Proofs.Tryd
noncomputable def K_14l:List (Nat×CE):=[]
theorem K_fq:Env.Ok prog (tab (K_14l)):=(Env.nil _)
noncomputable def K_15o:List (Nat×RE):=[]
theorem K_fr:REnv.Ok prog (tab (K_15o)):=(REnv.nil _)
noncomputable def K_48 (a4:Int) (a5:Bool) (w:World):Option ((Bool×Unit)×World):=
 if a5=true then(some ((true,()),w)) else(some (((a4 == 256),()),w))
noncomputable def K_47 (a4:Int) (a11:Bool) (w:World):Option ((Bool×Unit)×World):=
 if a11=true then(some ((true,()),w)) else(some (((a4 == 512),()),w))
noncomputable def K_9e (hash0:Int) (w:World):Option (((Array Value)×Bool×Unit)×World):=
 bnd (newB z138 138 w) fun p_1 w_2=>
 bnd (K_48 hash0 (hash0 == 224) w_2) fun y_3 w_4=>
 if y_3.1=true then((prog.built 138 [(0,(.int .i64 (IntKind.i64.wrap (Int.tdiv hash0 8)))),(1,(.int .i64 64)),(2,(.int .i64 4)),(3,(.func (.func 113) #[] #[]))]).bind fun cs_5=>
 if (cs_5).size=4 then((stA p_1 cs_5 w_4).bind fun w_6=>
 (ldA 4 p_1 w_6).bind fun res_7=>
 some ((res_7,true,()),w_6)) else none) else(bnd (K_47 hash0 (hash0 == 384) w_4) fun y_8 w_9=>
 if y_8.1=true then((prog.built 138 [(0,(.int .i64 (IntKind.i64.wrap (Int.tdiv hash0 8)))),(1,(.int .i64 128)),(2,(.int .i64 8)),(3,(.func (.func 114) #[] #[]))]).bind fun cs_10=>
 if (cs_10).size=4 then((stA p_1 cs_10 w_9).bind fun w_11=>
 (ldA 4 p_1 w_11).bind fun res_12=>
 some ((res_12,true,()),w_11)) else none) else((prog.built 138 []).bind fun cs_13=>
 if (cs_13).size=4 then((stA p_1 cs_13 w_9).bind fun w_14=>
 (ldA 4 p_1 w_14).bind fun res_15=>
 some ((res_15,false,()),w_14)) else none))
theorem K_wj:StmtNOk prog [(4,.int .i64),(5,.bool)] [(5,.bool)] [(5,6),(7,8)] (fun x w=>K_48 x.1 x.2.1 w) (cd (bodyOf f88) [1,0,1,0,0,1]):=
  K_g (O:=tabL []) (root:=(bodyOf f88)) (π:=[1,0,1,0,0,1]) (K_fq) (K_fr) rfl (Orc.nil _ _ _) (by kernel_rfl) (fun _ _=>by kernel_rfl)
noncomputable def K_is:SE:=stmtN [(4,.int .i64),(5,.bool)] [(5,.bool)] [(5,6),(7,8)] (fun x w=>K_48 x.1 x.2.1 w)
theorem K_ql(R:Rg)(h:subRB [(5,6),(7,8)] R=true):(K_is).Ok prog R (cd (bodyOf f88) [1,0,1,0,0,1]):=K_2 (K_wj) (K_0 h)
theorem K_wy:StmtNOk prog [(4,.int .i64),(11,.bool)] [(11,.bool)] [(11,12),(13,14)] (fun x w=>K_47 x.1 x.2.1 w) (cd (bodyOf f88) [1,0,1,0,1,1,0,1]):=
  K_g (O:=tabL []) (root:=(bodyOf f88)) (π:=[1,0,1,0,1,1,0,1]) (K_fq) (K_fr) rfl (Orc.nil _ _ _) (by kernel_rfl) (fun _ _=>by kernel_rfl)
noncomputable def K_iy:SE:=stmtN [(4,.int .i64),(11,.bool)] [(11,.bool)] [(11,12),(13,14)] (fun x w=>K_47 x.1 x.2.1 w)
theorem K_qi(R:Rg)(h:subRB [(11,12),(13,14)] R=true):(K_iy).Ok prog R (cd (bodyOf f88) [1,0,1,0,1,1,0,1]):=K_2 (K_wy) (K_0 h)
theorem K_j2:FunFacts prog 88 f88 (bodyOf f88) [(0,.int .i64)] [(0,18)]:=⟨func88,by kernel_rfl,by kernel_rfl,by kernel_rfl,by kernel_rfl,by kernel_rfl⟩
theorem K_wk(x:TT [(0,.int .i64)])(w:World)(y:TR [.agg,.bool])(w2:World)(h:K_9e x.1 w=some (y,w2)):Calls prog 88 (encA [(0,.int .i64)] x).toArray w (fun e w3=>e= .returned (resV (encR [.agg,.bool] y))∧w3=w2):=
  K_b (O:=tabL [([1,0,1,0,0,1],K_is),([1,0,1,0,1,1,0,1],K_iy)]) (Lp:=[(0,.int .i64)]) (Rt:=[.agg,.bool]) (S:=(fun x w=>K_9e x.1 w)) (K_fq) (K_fr) rfl K_j2 (Orc.cons (by kernel_rfl) (K_ql [(0,18)] (by kernel_rfl)) (Orc.cons (by kernel_rfl) (K_qi [(0,18)] (by kernel_rfl)) (Orc.nil _ _ _))) (fun _ _=>by kernel_rfl) x w y w2 h
noncomputable def K_n8:CE:=funE [(0,.int .i64)] [.agg,.bool] (fun x w=>K_9e x.1 w)
theorem K_12h:(K_n8).Ok prog 88:=K_8 K_j2 fun x w y w2 h=>K_wk x w y w2 h
noncomputable def K_175 (K:Nat):List (Nat×CE):=[]
theorem K_oz(K:Nat):Env.Ok prog (tab (K_175 K)):=(Env.nil _)
noncomputable def K_16h (K:Nat):List (Nat×RE):=[]
theorem K_nk(K:Nat):REnv.Ok prog (tab (K_16h K)):=(REnv.nil _)
noncomputable def K_1u (K:Nat) (rec:Int→Addr→Int→World→Option ((Unit)×World)) (hash0:Int) (out2:Addr) (a4:Int) (w:World):Option ((Unit)×World):=
 if (decide (a4<8))=true then(if (hash0 == 224)=true then(if (0:Int)≤(IntKind.i64.wrap (8+a4))∧(IntKind.i64.wrap (8+a4))<((16:Nat):Int) then((ldI .u64 ((⟨4,0,none⟩:Addr).add ((Int.toNat (IntKind.i64.wrap (8+a4)))*1)) w).bind fun v_3=>
 if (0:Int)≤a4∧a4<((8:Nat):Int) then((stC (out2.add ((Int.toNat a4)*1)) (.int .u64 (bits .and .u64 v_3 4294967295)) w).bind fun w_4=>
 rec hash0 out2 (IntKind.i64.wrap (a4+1)) w_4) else none) else none) else(if (hash0 == 256)=true then(if (0:Int)≤a4∧a4<((16:Nat):Int) then((ldI .u64 ((⟨4,0,none⟩:Addr).add ((Int.toNat a4)*1)) w).bind fun v_5=>
 if (0:Int)≤a4∧a4<((8:Nat):Int) then((stC (out2.add ((Int.toNat a4)*1)) (.int .u64 (Int.fdiv v_5 (2 ^ 32))) w).bind fun w_6=>
 rec hash0 out2 (IntKind.i64.wrap (a4+1)) w_6) else none) else none) else(if (hash0 == 384)=true then(if (0:Int)≤(IntKind.i64.wrap (8+a4))∧(IntKind.i64.wrap (8+a4))<((16:Nat):Int) then((ldI .u64 ((⟨4,0,none⟩:Addr).add ((Int.toNat (IntKind.i64.wrap (8+a4)))*1)) w).bind fun v_7=>
 if (0:Int)≤a4∧a4<((8:Nat):Int) then((stC (out2.add ((Int.toNat a4)*1)) (.int .u64 v_7) w).bind fun w_8=>
 rec hash0 out2 (IntKind.i64.wrap (a4+1)) w_8) else none) else none) else(if (hash0 == 512)=true then(if (0:Int)≤a4∧a4<((16:Nat):Int) then((ldI .u64 ((⟨4,0,none⟩:Addr).add ((Int.toNat a4)*1)) w).bind fun v_9=>
 if (0:Int)≤a4∧a4<((8:Nat):Int) then((stC (out2.add ((Int.toNat a4)*1)) (.int .u64 v_9) w).bind fun w_10=>
 rec hash0 out2 (IntKind.i64.wrap (a4+1)) w_10) else none) else none) else(rec hash0 out2 (IntKind.i64.wrap (a4+1)) w))))) else(some ((),w))
noncomputable def K_19 (K:Nat) (n:Nat):Int→Addr→Int→World→Option ((Unit)×World):=iter (fun _ _ _ _=>none) (K_1u K) n
noncomputable def K_6i (K:Nat) (hash0:Int) (w:World):Option (((Array Value)×Unit)×World):=
 bnd (newB z150 150 w) fun out_1 w_2=>
 bnd (K_19 K K hash0 out_1 0 w_2) fun y_11 w_12=>
 (ldA 8 out_1 w_12).bind fun v_13=>
 if (v_13).size=8 then((stA out_1 v_13 w_12).bind fun w_14=>
 (ldA 8 out_1 w_14).bind fun res_15=>
 some ((res_15,()),w_14)) else none
theorem K_yg(K:Nat)(n:Nat):StmtNOk prog [(0,.int .i64),(2,.addr),(4,.int .i64)] [] [(3,41)] ((fun n x w=>K_19 K n x.1 x.2.1 x.2.2.1 w) n) (.block 0 (.loop (cd (bodyOf f136) [1,0,1,0,0]))):=
  K_4 (O:=tabL []) (root:=(bodyOf f136)) (π:=[1,0,1,0,0]) (Li:=[(0,.int .i64),(2,.addr),(4,.int .i64)]) (Lo:=[]) (S:=(fun n x w=>K_19 K n x.1 x.2.1 x.2.2.1 w)) (K_oz K) (K_nk K) rfl (Orc.nil _ _ _) (by kernel_rfl) (fun _ _=>by kernel_rfl) (fun _ _ _=>by kernel_rfl) n
noncomputable def K_l0 (K:Nat):SE:=stmtN [(0,.int .i64),(2,.addr),(4,.int .i64)] [] [(3,41)] (fun x w=>K_19 K K x.1 x.2.1 x.2.2.1 w)
theorem K_s1(K:Nat)(R:Rg)(h:subRB [(3,41)] R=true):(K_l0 K).Ok prog R (.block 0 (.loop (cd (bodyOf f136) [1,0,1,0,0]))):=K_2 (K_yg K K) (K_0 h)
theorem K_ke:FunFacts prog 136 f136 (bodyOf f136) [(0,.int .i64)] [(0,42)]:=⟨func136,by kernel_rfl,by kernel_rfl,by kernel_rfl,by kernel_rfl,by kernel_rfl⟩
theorem K_xs(K:Nat)(x:TT [(0,.int .i64)])(w:World)(y:TR [.agg])(w2:World)(h:K_6i K x.1 w=some (y,w2)):Calls prog 136 (encA [(0,.int .i64)] x).toArray w (fun e w3=>e= .returned (resV (encR [.agg] y))∧w3=w2):=
  K_b (O:=tabL [([1,0,1],K_l0 K)]) (Lp:=[(0,.int .i64)]) (Rt:=[.agg]) (S:=(fun x w=>K_6i K x.1 w)) (K_oz K) (K_nk K) rfl K_ke (Orc.cons (by kernel_rfl) (K_s1 K [(0,42)] (by kernel_rfl)) (Orc.nil _ _ _)) (fun _ _=>by kernel_rfl) x w y w2 h
noncomputable def K_pu (K:Nat):CE:=funE [(0,.int .i64)] [.agg] (fun x w=>K_6i K x.1 w)
theorem K_144(K:Nat):(K_pu K).Ok prog 136:=K_8 K_ke fun x w y w2 h=>K_xs K x w y w2 h
noncomputable def K_16l (K:Nat):List (Nat×CE):=[(88,K_n8),(136,K_pu K)]
theorem K_12c(K:Nat):Env.Ok prog (tab (K_16l K)):=(Env.cons (K_12h) (Env.cons (K_144 K) (Env.nil _)))
noncomputable def K_16t (K:Nat):List (Nat×RE):=[]
theorem K_13a(K:Nat):REnv.Ok prog (tab (K_16t K)):=(REnv.nil _)
noncomputable def K_b8 (K:Nat) (hash0:Int) (w:World):Option (((Array Value)×Bool×Unit)×World):=
 bnd (newB z180 180 w) fun p_1 w_2=>
 bnd (K_9e hash0 w_2) fun r_3 w_4=>
 bnd (newB z138 138 w_4) fun k_5 w_6=>
 if (r_3.1).size=4 then((stA k_5 r_3.1 w_6).bind fun w_7=>
 (ldA 4 k_5 w_7.drew).bind fun v_8=>
 bnd (K_6i K hash0 w_7.drew) fun r_9 w_10=>
 (ldA 4 k_5 w_10).bind fun v_11=>
 sameK (.agg v_8) (.agg v_11) ((prog.built 180 [(0,(.agg v_8)),(1,(.int .i64 hash0)),(3,(.agg r_9.1))]).bind fun cs_12=>
 if (cs_12).size=142 then((stA p_1 cs_12 w_10).bind fun w_13=>
 (ldA 142 p_1 w_13).bind fun res_14=>
 some ((res_14,r_3.2.1,()),w_13)) else none)) else none
theorem K_k3:FunFacts prog 126 f126 (bodyOf f126) [(0,.int .i64)] [(0,17)]:=⟨func126,by kernel_rfl,by kernel_rfl,by kernel_rfl,by kernel_rfl,by kernel_rfl⟩
theorem K_yr(K:Nat)(x:TT [(0,.int .i64)])(w:World)(y:TR [.agg,.bool])(w2:World)(h:K_b8 K x.1 w=some (y,w2)):Calls prog 126 (encA [(0,.int .i64)] x).toArray w (fun e w3=>e= .returned (resV (encR [.agg,.bool] y))∧w3=w2):=
  K_b (O:=tabL []) (Lp:=[(0,.int .i64)]) (Rt:=[.agg,.bool]) (S:=(fun x w=>K_b8 K x.1 w)) (K_12c K) (K_13a K) rfl K_k3 (Orc.nil _ _ _) (fun _ _=>by kernel_rfl) x w y w2 h
noncomputable def K_q7 (K:Nat):CE:=funE [(0,.int .i64)] [.agg,.bool] (fun x w=>K_b8 K x.1 w)
theorem K_14t(K:Nat):(K_q7 K).Ok prog 126:=K_8 K_k3 fun x w y w2 h=>K_yr K x w y w2 h
noncomputable def K_1bf (K:Nat):List (Nat×CE):=[(126,K_q7 K)]
theorem K_16f(K:Nat):Env.Ok prog (tab (K_1bf K)):=(Env.cons (K_14t K) (Env.nil _))
noncomputable def K_1bk (K:Nat):List (Nat×RE):=[]
theorem K_17a(K:Nat):REnv.Ok prog (tab (K_1bk K)):=(REnv.nil _)
noncomputable def K_bv (K:Nat) (hash0:Int) (w:World):Option (((Option Addr)×Int×Unit)×World):=
 bnd (K_b8 K hash0 w) fun r_1 w_2=>
 bnd (newB z180 180 w_2) fun s_3 w_4=>
 if (r_1.1).size=142 then((stA s_3 r_1.1 w_4).bind fun w_5=>
 if (!r_1.2.1)=true then(some ((none,10,()),w_5)) else((ldA 142 s_3 w_5).bind fun v_6=>
 (prog.built 184 [(0,(.agg v_6))]).bind fun cs_7=>
 bnd (newB cs_7 184 w_5) fun p_8 w_9=>
 some (((some p_8),0,()),w_9))) else none
theorem K_nn:FunFacts prog 105 f105 (bodyOf f105) [(0,.int .i64)] [(0,16)]:=⟨func105,by kernel_rfl,by kernel_rfl,by kernel_rfl,by kernel_rfl,by kernel_rfl⟩
theorem K_13s(K:Nat)(x:TT [(0,.int .i64)])(w:World)(y:TR [.ptr,.int .i64])(w2:World)(h:K_bv K x.1 w=some (y,w2)):Calls prog 105 (encA [(0,.int .i64)] x).toArray w (fun e w3=>e= .returned (resV (encR [.ptr,.int .i64] y))∧w3=w2):=
  K_b (O:=tabL []) (Lp:=[(0,.int .i64)]) (Rt:=[.ptr,.int .i64]) (S:=(fun x w=>K_bv K x.1 w)) (K_16f K) (K_17a K) rfl K_nn (Orc.nil _ _ _) (fun _ _=>by kernel_rfl) x w y w2 h
noncomputable def K_v9 (K:Nat):CE:=funE [(0,.int .i64)] [.ptr,.int .i64] (fun x w=>K_bv K x.1 w)
theorem K_18t(K:Nat):(K_v9 K).Ok prog 105:=K_8 K_nn fun x w y w2 h=>K_13s K x w y w2 h
noncomputable def K_16u (K:Nat):List (Nat×RE):=[]
theorem K_o6(K:Nat):REnv.Ok prog (tab (K_16u K)):=(REnv.nil _)
noncomputable def K_77 (K:Nat) (w:World) (rec:Int→Sl→Int→Int→Option (Out (Int×Unit) (Int×Unit))) (n3:Int) (a6:Sl) (a7:Int) (a8:Int):Option (Out (Int×Unit) (Int×Unit)):=
 if (decide (a8<a7))=true then((a6.a).bind fun p_1=>
 if (0:Int)≤a8∧a8<((a6.len:Nat):Int) then((ldS (p_1.add ((Int.toNat a8)*1)) w).bind fun v_2=>
 if (decide ((IntKind.i64.wrap (n3+((v_2.len:Nat):Int))) > 33554432))=true then(some (.norm ((IntKind.i64.wrap (n3+((v_2.len:Nat):Int))),()))) else(rec (IntKind.i64.wrap (n3+((v_2.len:Nat):Int))) a6 a7 (IntKind.i64.wrap (a8+1)))) else none) else(some (.norm (n3,())))
noncomputable def K_3q (K:Nat) (n:Nat) (n3:Int) (a6:Sl) (a7:Int) (a8:Int) (w:World):Option (Out (Int×Unit) (Int×Unit)):=iter (α:=Int→Sl→Int→Int→Option (Out (Int×Unit) (Int×Unit))) (fun _ _ _ _=>none) (K_77 K w) n n3 a6 a7 a8
noncomputable def K_bj (K:Nat) (parts0:Sl) (w:World):Option (Int×Unit):=
 (K_3q K K 0 parts0 ((parts0.len:Nat):Int) 0 w).bind fun y_3=>
 (match y_3 with
 | .norm z_4n=>(some (z_4n.1,()))
 | .ret z_4r=>(some (z_4r.1,())))
theorem K_xx(K:Nat)(n:Nat):StmtQOk prog [(3,.int .i64),(6,.sl),(7,.int .i64),(8,.int .i64)] [(3,.int .i64)] [(2,.int .i64)] [(3,4),(5,6),(8,19)] ((fun n x w=>K_3q K n x.1 x.2.1 x.2.2.1 x.2.2.2.1 w) n) (.block 0 (.loop (cd (bodyOf f127) [1,1,0,1,0,0]))):=
  K_c1 (O:=tabL []) (root:=(bodyOf f127)) (π:=[1,1,0,1,0,0]) (Li:=[(3,.int .i64),(6,.sl),(7,.int .i64),(8,.int .i64)]) (Lo:=[(3,.int .i64)]) (Lr:=[(2,.int .i64)]) (S:=(fun n x w=>K_3q K n x.1 x.2.1 x.2.2.1 x.2.2.2.1 w)) (K_o6 K) (OrcQ.nil _ _ _) (by kernel_rfl) (fun _ _=>by kernel_rfl) (fun _ _ _=>by kernel_rfl) n
noncomputable def K_k6 (K:Nat):SQ:=stmtQ [(3,.int .i64),(6,.sl),(7,.int .i64),(8,.int .i64)] [(3,.int .i64)] [(2,.int .i64)] [(3,4),(5,6),(8,19)] (fun x w=>K_3q K K x.1 x.2.1 x.2.2.1 x.2.2.2.1 w)
theorem K_sd(K:Nat)(R:Rg)(h:subRB [(3,4),(5,6),(8,19)] R=true):(K_k6 K).Ok prog R (.block 0 (.loop (cd (bodyOf f127) [1,1,0,1,0,0]))):=K_8r (K_xx K K) (K_0 h)
theorem K_kz:FunFacts prog 127 f127 (bodyOf f127) [(0,.sl)] [(0,20)]:=⟨func127,by kernel_rfl,by kernel_rfl,by kernel_rfl,by kernel_rfl,by kernel_rfl⟩
theorem K_xa(K:Nat)(x:TT [(0,.sl)])(w:World)(y:TR [.int .i64])(h:K_bj K x.1 w=some y):Calls prog 127 (encA [(0,.sl)] x).toArray w (fun e w3=>e= .returned (resV (encR [.int .i64] y))∧w3=w):=
  K_4j (O:=tabL [([1,1,0,1],K_k6 K)]) (Lp:=[(0,.sl)]) (Rt:=[.int .i64]) (S:=(fun x w=>K_bj K x.1 w)) (K_o6 K) K_kz (OrcQ.cons (by kernel_rfl) (K_sd K [(0,20)] (by kernel_rfl)) (OrcQ.nil _ _ _)) (fun _ _=>by kernel_rfl) x w y h
noncomputable def K_pv (K:Nat):RE:=funR [(0,.sl)] [.int .i64] (fun x w=>K_bj K x.1 w)
theorem K_15g(K:Nat):(K_pv K).Ok prog 127:=K_4x K_kz fun x w y h=>K_xa K x w y h
noncomputable def K_wr:List (Nat×RE):=[]
theorem K_ry:REnv.Ok prog (tab (K_wr)):=(REnv.nil _)
noncomputable def K_5 (x0:Int) (k1:Int):Option (Int×Unit):=
 if (0:Int)≤(bits .and .u64 (IntKind.u64.wrap k1) 63) then(if (0:Int)≤(IntKind.u64.wrap (64 - (bits .and .u64 (IntKind.u64.wrap k1) 63))) then(some ((bits .or .u64 (IntKind.u64.wrap (x0*2 ^ (min (Int.toNat (bits .and .u64 (IntKind.u64.wrap k1) 63)) IntKind.u64.bits))) (Int.fdiv x0 (2 ^ (min (Int.toNat (IntKind.u64.wrap (64 - (bits .and .u64 (IntKind.u64.wrap k1) 63)))) IntKind.u64.bits)))),())) else none) else none
theorem K_f0:FunFacts prog 133 f133 (bodyOf f133) [(0,.int .u64),(1,.int .i64)] [(0,17)]:=⟨func133,by kernel_rfl,by kernel_rfl,by kernel_rfl,by kernel_rfl,by kernel_rfl⟩
theorem K_p9(x:TT [(0,.int .u64),(1,.int .i64)])(w:World)(y:TR [.int .u64])(h:K_5 x.1 x.2.1=some y):Calls prog 133 (encA [(0,.int .u64),(1,.int .i64)] x).toArray w (fun e w3=>e= .returned (resV (encR [.int .u64] y))∧w3=w):=
  K_4j (O:=tabL []) (Lp:=[(0,.int .u64),(1,.int .i64)]) (Rt:=[.int .u64]) (S:=(fun x w=>K_5 x.1 x.2.1)) (K_ry) K_f0 (OrcQ.nil _ _ _) (fun _ _=>by kernel_rfl) x w y h
noncomputable def K_i5:RE:=funR [(0,.int .u64),(1,.int .i64)] [.int .u64] (fun x w=>K_5 x.1 x.2.1)
theorem K_tz:(K_i5).Ok prog 133:=K_4x K_f0 fun x w y h=>K_p9 x w y h
end Go.Sh

namespace Go.Sh
open Go.Fw Go.Proofs.Tryd
noncomputable def K_18e (K:Nat):List (Nat×CE):=[]
theorem K_55(K:Nat):Env.Ok prog (tab (K_18e K)):=(Env.nil _)
noncomputable def K_18w (K:Nat):List (Nat×RE):=[(133,K_i5)]
theorem K_5a(K:Nat):REnv.Ok prog (tab (K_18w K)):=(REnv.cons (K_tz) (REnv.nil _))
noncomputable def K_95 (K:Nat) (rec:Option Addr→Sl→Addr→Int→Int→Sl→Int→Int→World→Option ((Unit)×World)) (h0:Option Addr) (b1:Sl) (w4:Addr) (i5:Int) (a30:Int) (a39:Sl) (a40:Int) (a41:Int) (w:World):Option ((Unit)×World):=
 if (decide (a41<a40))=true then((a39.a).bind fun p_3=>
 if (0:Int)≤a41∧a41<((a39.len:Nat):Int) then((ldI .u8 (p_3.add ((Int.toNat a41)*1)) w).bind fun v_4=>
 if (0:Int)≤i5∧i5<((80:Nat):Int) then((ldI .u64 (w4.add ((Int.toNat i5)*1)) w).bind fun v_5=>
 if (0:Int)≤i5∧i5<((80:Nat):Int) then((stC (w4.add ((Int.toNat i5)*1)) (.int .u64 (bits .or .u64 (IntKind.u64.wrap (v_5*2 ^ 8)) (IntKind.u64.wrap v_4))) w).bind fun w_6=>
 rec h0 b1 w4 i5 a30 a39 a40 (IntKind.i64.wrap (a41+1)) w_6) else none) else none) else none) else(some ((),w))
noncomputable def K_4a (K:Nat) (n:Nat):Option Addr→Sl→Addr→Int→Int→Sl→Int→Int→World→Option ((Unit)×World):=iter (fun _ _ _ _ _ _ _ _ _=>none) (K_95 K) n
noncomputable def K_8q (K:Nat) (rec:Option Addr→Sl→Addr→Int→World→Option ((Unit)×World)) (h0:Option Addr) (b1:Sl) (w4:Addr) (a30:Int) (w:World):Option ((Unit)×World):=
 if (decide (a30<16))=true then(if (0:Int)≤(IntKind.i64.wrap ((IntKind.i64.wrap (8*a30))+8))∧(IntKind.i64.wrap ((IntKind.i64.wrap (8*a30))+8))≤((b1.cap:Nat):Int) then(if (0:Int)≤(IntKind.i64.wrap (8*a30))∧(IntKind.i64.wrap (8*a30))≤(((Int.toNat ((IntKind.i64.wrap ((IntKind.i64.wrap (8*a30))+8)))):Nat):Int) then(bnd (K_4a K K h0 b1 w4 a30 a30 ⟨(sla b1.a (Int.toNat ((IntKind.i64.wrap (8*a30)))) b1.cap 1),((Int.toNat ((IntKind.i64.wrap ((IntKind.i64.wrap (8*a30))+8)))) - (Int.toNat ((IntKind.i64.wrap (8*a30))))),(b1.cap - (Int.toNat ((IntKind.i64.wrap (8*a30)))))⟩ ((((Int.toNat ((IntKind.i64.wrap ((IntKind.i64.wrap (8*a30))+8)))) - (Int.toNat ((IntKind.i64.wrap (8*a30))))):Nat):Int) 0 w) fun y_7 w_8=>
 rec h0 b1 w4 (IntKind.i64.wrap (a30+1)) w_8) else none) else none) else(some ((),w))
noncomputable def K_4h (K:Nat) (n:Nat):Option Addr→Sl→Addr→Int→World→Option ((Unit)×World):=iter (fun _ _ _ _ _=>none) (K_8q K) n
noncomputable def K_8e (K:Nat) (rec:Option Addr→Sl→Addr→Int→World→Option ((Unit)×World)) (h0:Option Addr) (b1:Sl) (w4:Addr) (i8:Int) (w:World):Option ((Unit)×World):=
 if (decide (i8<80))=true then(if (0:Int)≤(IntKind.i64.wrap (i8 - 15))∧(IntKind.i64.wrap (i8 - 15))<((80:Nat):Int) then(if (0:Int)≤(IntKind.i64.wrap (i8 - 2))∧(IntKind.i64.wrap (i8 - 2))<((80:Nat):Int) then((ldI .u64 (w4.add ((Int.toNat (IntKind.i64.wrap (i8 - 15)))*1)) w.drew).bind fun v_11=>
 (ldI .u64 (w4.add ((Int.toNat (IntKind.i64.wrap (i8 - 2)))*1)) w.drew).bind fun v_12=>
 if (0:Int)≤(IntKind.i64.wrap (i8 - 16))∧(IntKind.i64.wrap (i8 - 16))<((80:Nat):Int) then(if (0:Int)≤(IntKind.i64.wrap (i8 - 7))∧(IntKind.i64.wrap (i8 - 7))<((80:Nat):Int) then((ldI .u64 (w4.add ((Int.toNat (IntKind.i64.wrap (i8 - 16)))*1)) w.drew.drew).bind fun v_13=>
 (ldI .u64 (w4.add ((Int.toNat (IntKind.i64.wrap (i8 - 7)))*1)) w.drew.drew).bind fun v_14=>
 (K_5 v_11 (-1)).bind fun r_15=>
 (K_5 v_11 (-8)).bind fun r_16=>
 (K_5 v_12 (-19)).bind fun r_17=>
 (K_5 v_12 (-61)).bind fun r_18=>
 if (0:Int)≤i8∧i8<((80:Nat):Int) then((stC (w4.add ((Int.toNat i8)*1)) (.int .u64 (IntKind.u64.wrap ((IntKind.u64.wrap ((IntKind.u64.wrap (v_13+v_14))+(bits .xor .u64 (bits .xor .u64 r_15.1 r_16.1) (Int.fdiv v_11 (2 ^ 7)))))+(bits .xor .u64 (bits .xor .u64 r_17.1 r_18.1) (Int.fdiv v_12 (2 ^ 6)))))) w.drew.drew).bind fun w_19=>
 rec h0 b1 w4 (IntKind.i64.wrap (i8+1)) w_19) else none) else none) else none) else none) else none) else(some ((),w))
noncomputable def K_4g (K:Nat) (n:Nat):Option Addr→Sl→Addr→Int→World→Option ((Unit)×World):=iter (fun _ _ _ _ _=>none) (K_8e K) n
noncomputable def K_8c (K:Nat) (rec:Option Addr→Sl→Addr→Int→Int→Int→Int→Int→Int→Int→Int→Array Value→Int→World→Option ((Int×Int×Int×Int×Int×Int×Int×Int×Unit)×World)) (h0:Option Addr) (b1:Sl) (w4:Addr) (a11:Int) (b112:Int) (c13:Int) (d14:Int) (e15:Int) (f16:Int) (g17:Int) (k18:Int) (a129:Array Value) (a130:Int) (w:World):Option ((Int×Int×Int×Int×Int×Int×Int×Int×Unit)×World):=
 if (decide (a130<80))=true then(if (0:Int)≤a130∧a130<((80:Nat):Int) then((a129[((Int.toNat a130)*1)]?).bind fun v_39=>
 (asI .u64 v_39).bind fun v_40=>
 if (0:Int)≤a130∧a130<((80:Nat):Int) then((K_5 e15 (-14)).bind fun r_41=>
 (K_5 e15 (-18)).bind fun r_42=>
 (K_5 e15 (-41)).bind fun r_43=>
 (ldI .u64 (w4.add ((Int.toNat a130)*1)) w.drew).bind fun v_44=>
 (K_5 a11 (-28)).bind fun r_45=>
 (K_5 a11 (-34)).bind fun r_46=>
 (K_5 a11 (-39)).bind fun r_47=>
 rec h0 b1 w4 (IntKind.u64.wrap ((IntKind.u64.wrap ((IntKind.u64.wrap ((IntKind.u64.wrap ((IntKind.u64.wrap (k18+(bits .xor .u64 (bits .xor .u64 r_41.1 r_42.1) r_43.1)))+(bits .xor .u64 (bits .and .u64 e15 f16) (bits .and .u64 (bits .xor .u64 IntKind.u64.max e15) g17))))+v_40))+v_44))+(IntKind.u64.wrap ((bits .xor .u64 (bits .xor .u64 r_45.1 r_46.1) r_47.1)+(bits .xor .u64 (bits .xor .u64 (bits .and .u64 a11 b112) (bits .and .u64 a11 c13)) (bits .and .u64 b112 c13)))))) a11 b112 c13 (IntKind.u64.wrap (d14+(IntKind.u64.wrap ((IntKind.u64.wrap ((IntKind.u64.wrap ((IntKind.u64.wrap (k18+(bits .xor .u64 (bits .xor .u64 r_41.1 r_42.1) r_43.1)))+(bits .xor .u64 (bits .and .u64 e15 f16) (bits .and .u64 (bits .xor .u64 IntKind.u64.max e15) g17))))+v_40))+v_44)))) e15 f16 g17 a129 (IntKind.i64.wrap (a130+1)) w.drew) else none) else none) else(some ((a11,b112,c13,d14,e15,f16,g17,k18,()),w))
noncomputable def K_4u (K:Nat) (n:Nat):Option Addr→Sl→Addr→Int→Int→Int→Int→Int→Int→Int→Int→Array Value→Int→World→Option ((Int×Int×Int×Int×Int×Int×Int×Int×Unit)×World):=iter (fun _ _ _ _ _ _ _ _ _ _ _ _ _ _=>none) (K_8c K) n
noncomputable def K_8j (K:Nat) (rec:Option Addr→Sl→Addr→Array Value→Int→World→Option ((Unit)×World)) (h0:Option Addr) (b1:Sl) (w4:Addr) (a200:Array Value) (a201:Int) (w:World):Option ((Unit)×World):=
 if (decide (a201<8))=true then(if (0:Int)≤a201∧a201<((8:Nat):Int) then((a200[((Int.toNat a201)*1)]?).bind fun v_51=>
 (asI .u64 v_51).bind fun v_52=>
 (h0).bind fun p_53=>
 if (0:Int)≤a201∧a201<((8:Nat):Int) then((h0).bind fun p_54=>
 (ldI .u64 (p_53.add ((Int.toNat a201)*1)) w.drew).bind fun v_55=>
 if (0:Int)≤a201∧a201<((8:Nat):Int) then((stC (p_54.add ((Int.toNat a201)*1)) (.int .u64 (IntKind.u64.wrap (v_55+v_52))) w.drew).bind fun w_56=>
 rec h0 b1 w4 a200 (IntKind.i64.wrap (a201+1)) w_56) else none) else none) else none) else(some ((),w))
noncomputable def K_4d (K:Nat) (n:Nat):Option Addr→Sl→Addr→Array Value→Int→World→Option ((Unit)×World):=iter (fun _ _ _ _ _ _=>none) (K_8j K) n
noncomputable def K_27 (K:Nat) (rec:Option Addr→Sl→Addr→World→Option ((Unit)×World)) (h0:Option Addr) (b1:Sl) (w4:Addr) (w:World):Option ((Unit)×World):=
 if (decide (((b1.len:Nat):Int)≥128))=true then(bnd (K_4h K K h0 b1 w4 0 w) fun y_9 w_10=>
 bnd (K_4g K K h0 b1 w4 16 w_10) fun y_20 w_21=>
 (h0).bind fun p_22=>
 (h0).bind fun p_23=>
 (h0).bind fun p_24=>
 (h0).bind fun p_25=>
 (h0).bind fun p_26=>
 (h0).bind fun p_27=>
 (h0).bind fun p_28=>
 (h0).bind fun p_29=>
 (ldI .u64 (p_22.add (0*1)) w_21.drew).bind fun v_30=>
 (ldI .u64 (p_23.add (1*1)) w_21.drew).bind fun v_31=>
 (ldI .u64 (p_24.add (2*1)) w_21.drew).bind fun v_32=>
 (ldI .u64 (p_25.add (3*1)) w_21.drew).bind fun v_33=>
 (ldI .u64 (p_26.add (4*1)) w_21.drew).bind fun v_34=>
 (ldI .u64 (p_27.add (5*1)) w_21.drew).bind fun v_35=>
 (ldI .u64 (p_28.add (6*1)) w_21.drew).bind fun v_36=>
 (ldI .u64 (p_29.add (7*1)) w_21.drew).bind fun v_37=>
 (ldA 80 (⟨3,0,none⟩:Addr) w_21.drew).bind fun v_38=>
 bnd (K_4u K K h0 b1 w4 v_30 v_31 v_32 v_33 v_34 v_35 v_36 v_37 v_38 0 w_21.drew) fun y_48 w_49=>
 (prog.built 150 [(0,(.int .u64 y_48.1)),(1,(.int .u64 y_48.2.1)),(2,(.int .u64 y_48.2.2.1)),(3,(.int .u64 y_48.2.2.2.1)),(4,(.int .u64 y_48.2.2.2.2.1)),(5,(.int .u64 y_48.2.2.2.2.2.1)),(6,(.int .u64 y_48.2.2.2.2.2.2.1)),(7,(.int .u64 y_48.2.2.2.2.2.2.2.1))]).bind fun cs_50=>
 bnd (K_4d K K h0 b1 w4 cs_50 0 w_49) fun y_57 w_58=>
 if (0:Int)≤128∧128≤((b1.len:Nat):Int) then(rec h0 ⟨(sla b1.a 128 b1.cap 1),(b1.len - 128),(b1.cap - 128)⟩ w4 w_58) else none) else(some ((),w))
noncomputable def K_1x (K:Nat) (n:Nat):Option Addr→Sl→Addr→World→Option ((Unit)×World):=iter (fun _ _ _ _=>none) (K_27 K) n
noncomputable def K_82 (K:Nat) (h0:Option Addr) (b1:Sl) (w:World):Option ((Unit)×World):=
 bnd (newB z175 175 w) fun w_1 w_2=>
 bnd (K_1x K K h0 b1 w_1 w_2) fun y_59 w_60=>
 some ((),w_60)
theorem K_zq(K:Nat)(n:Nat):StmtNOk prog [(0,.ptr),(1,.sl),(4,.addr),(5,.int .i64),(30,.int .i64),(39,.sl),(40,.int .i64),(41,.int .i64)] [] [(7,8),(41,55)] ((fun n x w=>K_4a K n x.1 x.2.1 x.2.2.1 x.2.2.2.1 x.2.2.2.2.1 x.2.2.2.2.2.1 x.2.2.2.2.2.2.1 x.2.2.2.2.2.2.2.1 w) n) (.block 4 (.loop (cd (bodyOf f114) [1,0,0,1,0,0,0,1,0,0,1,1,0,0,1,1,0,0]))):=
  K_4 (O:=tabL []) (root:=(bodyOf f114)) (π:=[1,0,0,1,0,0,0,1,0,0,1,1,0,0,1,1,0,0]) (Li:=[(0,.ptr),(1,.sl),(4,.addr),(5,.int .i64),(30,.int .i64),(39,.sl),(40,.int .i64),(41,.int .i64)]) (Lo:=[]) (S:=(fun n x w=>K_4a K n x.1 x.2.1 x.2.2.1 x.2.2.2.1 x.2.2.2.2.1 x.2.2.2.2.2.1 x.2.2.2.2.2.2.1 x.2.2.2.2.2.2.2.1 w)) (K_55 K) (K_5a K) rfl (Orc.nil _ _ _) (by kernel_rfl) (fun _ _=>by kernel_rfl) (fun _ _ _=>by kernel_rfl) n
noncomputable def K_at (K:Nat):SE:=stmtN [(0,.ptr),(1,.sl),(4,.addr),(5,.int .i64),(30,.int .i64),(39,.sl),(40,.int .i64),(41,.int .i64)] [] [(7,8),(41,55)] (fun x w=>K_4a K K x.1 x.2.1 x.2.2.1 x.2.2.2.1 x.2.2.2.2.1 x.2.2.2.2.2.1 x.2.2.2.2.2.2.1 x.2.2.2.2.2.2.2.1 w)
theorem K_ce(K:Nat)(R:Rg)(h:subRB [(7,8),(41,55)] R=true):(K_at K).Ok prog R (.block 4 (.loop (cd (bodyOf f114) [1,0,0,1,0,0,0,1,0,0,1,1,0,0,1,1,0,0]))):=K_2 (K_zq K K) (K_0 h)
theorem K_zo(K:Nat)(n:Nat):StmtNOk prog [(0,.ptr),(1,.sl),(4,.addr),(30,.int .i64)] [] [(5,6),(7,8),(30,56)] ((fun n x w=>K_4h K n x.1 x.2.1 x.2.2.1 x.2.2.2.1 w) n) (.block 2 (.loop (cd (bodyOf f114) [1,0,0,1,0,0,0,1,0,0]))):=
  K_4 (O:=tabL [([1,0,0,1,0,0,0,1,0,0,1,1,0,0,1,1],K_at K)]) (root:=(bodyOf f114)) (π:=[1,0,0,1,0,0,0,1,0,0]) (Li:=[(0,.ptr),(1,.sl),(4,.addr),(30,.int .i64)]) (Lo:=[]) (S:=(fun n x w=>K_4h K n x.1 x.2.1 x.2.2.1 x.2.2.2.1 w)) (K_55 K) (K_5a K) rfl (Orc.cons (by kernel_rfl) (K_ce K [(5,6),(7,8),(30,56)] (by kernel_rfl)) (Orc.nil _ _ _)) (by kernel_rfl) (fun _ _=>by kernel_rfl) (fun _ _ _=>by kernel_rfl) n
noncomputable def K_fk (K:Nat):SE:=stmtN [(0,.ptr),(1,.sl),(4,.addr),(30,.int .i64)] [] [(5,6),(7,8),(30,56)] (fun x w=>K_4h K K x.1 x.2.1 x.2.2.1 x.2.2.2.1 w)
theorem K_ib(K:Nat)(R:Rg)(h:subRB [(5,6),(7,8),(30,56)] R=true):(K_fk K).Ok prog R (.block 2 (.loop (cd (bodyOf f114) [1,0,0,1,0,0,0,1,0,0]))):=K_2 (K_zo K K) (K_0 h)
theorem K_zt(K:Nat)(n:Nat):StmtNOk prog [(0,.ptr),(1,.sl),(4,.addr),(8,.int .i64)] [] [(8,11),(56,97)] ((fun n x w=>K_4g K n x.1 x.2.1 x.2.2.1 x.2.2.2.1 w) n) (.block 6 (.loop (cd (bodyOf f114) [1,0,0,1,0,0,1,0,1,0,0]))):=
  K_4 (O:=tabL []) (root:=(bodyOf f114)) (π:=[1,0,0,1,0,0,1,0,1,0,0]) (Li:=[(0,.ptr),(1,.sl),(4,.addr),(8,.int .i64)]) (Lo:=[]) (S:=(fun n x w=>K_4g K n x.1 x.2.1 x.2.2.1 x.2.2.2.1 w)) (K_55 K) (K_5a K) rfl (Orc.nil _ _ _) (by kernel_rfl) (fun _ _=>by kernel_rfl) (fun _ _ _=>by kernel_rfl) n
noncomputable def K_fl (K:Nat):SE:=stmtN [(0,.ptr),(1,.sl),(4,.addr),(8,.int .i64)] [] [(8,11),(56,97)] (fun x w=>K_4g K K x.1 x.2.1 x.2.2.1 x.2.2.2.1 w)
theorem K_i2(K:Nat)(R:Rg)(h:subRB [(8,11),(56,97)] R=true):(K_fl K).Ok prog R (.block 6 (.loop (cd (bodyOf f114) [1,0,0,1,0,0,1,0,1,0,0]))):=K_2 (K_zt K K) (K_0 h)
theorem K_10n(K:Nat)(n:Nat):StmtNOk prog [(0,.ptr),(1,.sl),(4,.addr),(11,.int .u64),(12,.int .u64),(13,.int .u64),(14,.int .u64),(15,.int .u64),(16,.int .u64),(17,.int .u64),(18,.int .u64),(129,.agg),(130,.int .i64)] [(11,.int .u64),(12,.int .u64),(13,.int .u64),(14,.int .u64),(15,.int .u64),(16,.int .u64),(17,.int .u64),(18,.int .u64)] [(11,23),(130,192)] ((fun n x w=>K_4u K n x.1 x.2.1 x.2.2.1 x.2.2.2.1 x.2.2.2.2.1 x.2.2.2.2.2.1 x.2.2.2.2.2.2.1 x.2.2.2.2.2.2.2.1 x.2.2.2.2.2.2.2.2.1 x.2.2.2.2.2.2.2.2.2.1 x.2.2.2.2.2.2.2.2.2.2.1 x.2.2.2.2.2.2.2.2.2.2.2.1 x.2.2.2.2.2.2.2.2.2.2.2.2.1 w) n) (.block 8 (.loop (cd (bodyOf f114) [1,0,0,1,0,0,1,1,1,0,1,0,0]))):=
  K_4 (O:=tabL []) (root:=(bodyOf f114)) (π:=[1,0,0,1,0,0,1,1,1,0,1,0,0]) (Li:=[(0,.ptr),(1,.sl),(4,.addr),(11,.int .u64),(12,.int .u64),(13,.int .u64),(14,.int .u64),(15,.int .u64),(16,.int .u64),(17,.int .u64),(18,.int .u64),(129,.agg),(130,.int .i64)]) (Lo:=[(11,.int .u64),(12,.int .u64),(13,.int .u64),(14,.int .u64),(15,.int .u64),(16,.int .u64),(17,.int .u64),(18,.int .u64)]) (S:=(fun n x w=>K_4u K n x.1 x.2.1 x.2.2.1 x.2.2.2.1 x.2.2.2.2.1 x.2.2.2.2.2.1 x.2.2.2.2.2.2.1 x.2.2.2.2.2.2.2.1 x.2.2.2.2.2.2.2.2.1 x.2.2.2.2.2.2.2.2.2.1 x.2.2.2.2.2.2.2.2.2.2.1 x.2.2.2.2.2.2.2.2.2.2.2.1 x.2.2.2.2.2.2.2.2.2.2.2.2.1 w)) (K_55 K) (K_5a K) rfl (Orc.nil _ _ _) (by kernel_rfl) (fun _ _=>by kernel_rfl) (fun _ _ _=>by kernel_rfl) n
noncomputable def K_fm (K:Nat):SE:=stmtN [(0,.ptr),(1,.sl),(4,.addr),(11,.int .u64),(12,.int .u64),(13,.int .u64),(14,.int .u64),(15,.int .u64),(16,.int .u64),(17,.int .u64),(18,.int .u64),(129,.agg),(130,.int .i64)] [(11,.int .u64),(12,.int .u64),(13,.int .u64),(14,.int .u64),(15,.int .u64),(16,.int .u64),(17,.int .u64),(18,.int .u64)] [(11,23),(130,192)] (fun x w=>K_4u K K x.1 x.2.1 x.2.2.1 x.2.2.2.1 x.2.2.2.2.1 x.2.2.2.2.2.1 x.2.2.2.2.2.2.1 x.2.2.2.2.2.2.2.1 x.2.2.2.2.2.2.2.2.1 x.2.2.2.2.2.2.2.2.2.1 x.2.2.2.2.2.2.2.2.2.2.1 x.2.2.2.2.2.2.2.2.2.2.2.1 x.2.2.2.2.2.2.2.2.2.2.2.2.1 w)
theorem K_i8(K:Nat)(R:Rg)(h:subRB [(11,23),(130,192)] R=true):(K_fm K).Ok prog R (.block 8 (.loop (cd (bodyOf f114) [1,0,0,1,0,0,1,1,1,0,1,0,0]))):=K_2 (K_10n K K) (K_0 h)
theorem K_zs(K:Nat)(n:Nat):StmtNOk prog [(0,.ptr),(1,.sl),(4,.addr),(200,.agg),(201,.int .i64)] [] [(23,25),(201,215)] ((fun n x w=>K_4d K n x.1 x.2.1 x.2.2.1 x.2.2.2.1 x.2.2.2.2.1 w) n) (.block 10 (.loop (cd (bodyOf f114) [1,0,0,1,0,0,1,1,1,1,1,0,0]))):=
  K_4 (O:=tabL []) (root:=(bodyOf f114)) (π:=[1,0,0,1,0,0,1,1,1,1,1,0,0]) (Li:=[(0,.ptr),(1,.sl),(4,.addr),(200,.agg),(201,.int .i64)]) (Lo:=[]) (S:=(fun n x w=>K_4d K n x.1 x.2.1 x.2.2.1 x.2.2.2.1 x.2.2.2.2.1 w)) (K_55 K) (K_5a K) rfl (Orc.nil _ _ _) (by kernel_rfl) (fun _ _=>by kernel_rfl) (fun _ _ _=>by kernel_rfl) n
noncomputable def K_fh (K:Nat):SE:=stmtN [(0,.ptr),(1,.sl),(4,.addr),(200,.agg),(201,.int .i64)] [] [(23,25),(201,215)] (fun x w=>K_4d K K x.1 x.2.1 x.2.2.1 x.2.2.2.1 x.2.2.2.2.1 w)
theorem K_ht(K:Nat)(R:Rg)(h:subRB [(23,25),(201,215)] R=true):(K_fh K).Ok prog R (.block 10 (.loop (cd (bodyOf f114) [1,0,0,1,0,0,1,1,1,1,1,0,0]))):=K_2 (K_zs K K) (K_0 h)
theorem K_zr(K:Nat)(n:Nat):StmtNOk prog [(0,.ptr),(1,.sl),(4,.addr)] [] [(1,2),(5,6),(7,215)] ((fun n x w=>K_1x K n x.1 x.2.1 x.2.2.1 w) n) (.block 0 (.loop (cd (bodyOf f114) [1,0,0]))):=
  K_4 (O:=tabL [([1,0,0,1,0,0,0,1],K_fk K),([1,0,0,1,0,0,0,1,0,0,1,1,0,0,1,1],K_at K),([1,0,0,1,0,0,1,0,1],K_fl K),([1,0,0,1,0,0,1,1,1,0,1],K_fm K),([1,0,0,1,0,0,1,1,1,1,1],K_fh K)]) (root:=(bodyOf f114)) (π:=[1,0,0]) (Li:=[(0,.ptr),(1,.sl),(4,.addr)]) (Lo:=[]) (S:=(fun n x w=>K_1x K n x.1 x.2.1 x.2.2.1 w)) (K_55 K) (K_5a K) rfl (Orc.cons (by kernel_rfl) (K_ib K [(1,2),(5,6),(7,215)] (by kernel_rfl)) (Orc.cons (by kernel_rfl) (K_ce K [(1,2),(5,6),(7,215)] (by kernel_rfl)) (Orc.cons (by kernel_rfl) (K_i2 K [(1,2),(5,6),(7,215)] (by kernel_rfl)) (Orc.cons (by kernel_rfl) (K_i8 K [(1,2),(5,6),(7,215)] (by kernel_rfl)) (Orc.cons (by kernel_rfl) (K_ht K [(1,2),(5,6),(7,215)] (by kernel_rfl)) (Orc.nil _ _ _)))))) (by kernel_rfl) (fun _ _=>by kernel_rfl) (fun _ _ _=>by kernel_rfl) n
noncomputable def K_lr (K:Nat):SE:=stmtN [(0,.ptr),(1,.sl),(4,.addr)] [] [(1,2),(5,6),(7,215)] (fun x w=>K_1x K K x.1 x.2.1 x.2.2.1 w)
theorem K_tl(K:Nat)(R:Rg)(h:subRB [(1,2),(5,6),(7,215)] R=true):(K_lr K).Ok prog R (.block 0 (.loop (cd (bodyOf f114) [1,0,0]))):=K_2 (K_zr K K) (K_0 h)
theorem K_mc:FunFacts prog 114 f114 (bodyOf f114) [(0,.ptr),(1,.sl)] [(0,215)]:=⟨func114,by kernel_rfl,by kernel_rfl,by kernel_rfl,by kernel_rfl,by kernel_rfl⟩
theorem K_10y(K:Nat)(x:TT [(0,.ptr),(1,.sl)])(w:World)(y:TR [])(w2:World)(h:K_82 K x.1 x.2.1 w=some (y,w2)):Calls prog 114 (encA [(0,.ptr),(1,.sl)] x).toArray w (fun e w3=>e= .returned (resV (encR [] y))∧w3=w2):=
  K_b (O:=tabL [([1],K_lr K),([1,0,0,1,0,0,0,1],K_fk K),([1,0,0,1,0,0,0,1,0,0,1,1,0,0,1,1],K_at K),([1,0,0,1,0,0,1,0,1],K_fl K),([1,0,0,1,0,0,1,1,1,0,1],K_fm K),([1,0,0,1,0,0,1,1,1,1,1],K_fh K)]) (Lp:=[(0,.ptr),(1,.sl)]) (Rt:=[]) (S:=(fun x w=>K_82 K x.1 x.2.1 w)) (K_55 K) (K_5a K) rfl K_mc (Orc.cons (by kernel_rfl) (K_tl K [(0,215)] (by kernel_rfl)) (Orc.cons (by kernel_rfl) (K_ib K [(0,215)] (by kernel_rfl)) (Orc.cons (by kernel_rfl) (K_ce K [(0,215)] (by kernel_rfl)) (Orc.cons (by kernel_rfl) (K_i2 K [(0,215)] (by kernel_rfl)) (Orc.cons (by kernel_rfl) (K_i8 K [(0,215)] (by kernel_rfl)) (Orc.cons (by kernel_rfl) (K_ht K [(0,215)] (by kernel_rfl)) (Orc.nil _ _ _))))))) (fun _ _=>by kernel_rfl) x w y w2 h
noncomputable def K_t0 (K:Nat):CE:=funE [(0,.ptr),(1,.sl)] [] (fun x w=>K_82 K x.1 x.2.1 w)
theorem K_16v(K:Nat):(K_t0 K).Ok prog 114:=K_8 K_mc fun x w y w2 h=>K_10y K x w y w2 h
noncomputable def K_vx:List (Nat×RE):=[]
theorem K_se:REnv.Ok prog (tab (K_vx)):=(REnv.nil _)
noncomputable def K_6 (x0:Int) (k1:Int):Option (Int×Unit):=
 if (0:Int)≤(bits .and .u64 (IntKind.u64.wrap k1) 31) then(if (0:Int)≤(IntKind.u64.wrap (32 - (bits .and .u64 (IntKind.u64.wrap k1) 31))) then(some ((bits .or .u32 (IntKind.u32.wrap (x0*2 ^ (min (Int.toNat (bits .and .u64 (IntKind.u64.wrap k1) 31)) IntKind.u32.bits))) (Int.fdiv x0 (2 ^ (min (Int.toNat (IntKind.u64.wrap (32 - (bits .and .u64 (IntKind.u64.wrap k1) 31)))) IntKind.u32.bits)))),())) else none) else none
theorem K_f9:FunFacts prog 132 f132 (bodyOf f132) [(0,.int .u32),(1,.int .i64)] [(0,17)]:=⟨func132,by kernel_rfl,by kernel_rfl,by kernel_rfl,by kernel_rfl,by kernel_rfl⟩
theorem K_pf(x:TT [(0,.int .u32),(1,.int .i64)])(w:World)(y:TR [.int .u32])(h:K_6 x.1 x.2.1=some y):Calls prog 132 (encA [(0,.int .u32),(1,.int .i64)] x).toArray w (fun e w3=>e= .returned (resV (encR [.int .u32] y))∧w3=w):=
  K_4j (O:=tabL []) (Lp:=[(0,.int .u32),(1,.int .i64)]) (Rt:=[.int .u32]) (S:=(fun x w=>K_6 x.1 x.2.1)) (K_se) K_f9 (OrcQ.nil _ _ _) (fun _ _=>by kernel_rfl) x w y h
noncomputable def K_hl:RE:=funR [(0,.int .u32),(1,.int .i64)] [.int .u32] (fun x w=>K_6 x.1 x.2.1)
theorem K_v2:(K_hl).Ok prog 132:=K_4x K_f9 fun x w y h=>K_pf x w y h
noncomputable def K_14w (K:Nat):List (Nat×CE):=[]
theorem K_3i(K:Nat):Env.Ok prog (tab (K_14w K)):=(Env.nil _)
noncomputable def K_14s (K:Nat):List (Nat×RE):=[(132,K_hl)]
theorem K_3f(K:Nat):REnv.Ok prog (tab (K_14s K)):=(REnv.cons (K_v2) (REnv.nil _))
noncomputable def K_6r (K:Nat) (rec:Option Addr→Sl→Addr→Int→World→Option ((Unit)×World)) (h0:Option Addr) (b1:Sl) (w4:Addr) (a31:Int) (w:World):Option ((Unit)×World):=
 if (decide (a31<16))=true then(if (0:Int)≤(IntKind.i64.wrap ((IntKind.i64.wrap (4*a31))+4))∧(IntKind.i64.wrap ((IntKind.i64.wrap (4*a31))+4))≤((b1.cap:Nat):Int) then(if (0:Int)≤(IntKind.i64.wrap (4*a31))∧(IntKind.i64.wrap (4*a31))≤(((Int.toNat ((IntKind.i64.wrap ((IntKind.i64.wrap (4*a31))+4)))):Nat):Int) then(((sla b1.a (Int.toNat ((IntKind.i64.wrap (4*a31)))) b1.cap 1)).bind fun p_3=>
 if (0:Int)≤0∧0<((((Int.toNat ((IntKind.i64.wrap ((IntKind.i64.wrap (4*a31))+4)))) - (Int.toNat ((IntKind.i64.wrap (4*a31))))):Nat):Int) then(((sla b1.a (Int.toNat ((IntKind.i64.wrap (4*a31)))) b1.cap 1)).bind fun p_4=>
 if (0:Int)≤1∧1<((((Int.toNat ((IntKind.i64.wrap ((IntKind.i64.wrap (4*a31))+4)))) - (Int.toNat ((IntKind.i64.wrap (4*a31))))):Nat):Int) then(((sla b1.a (Int.toNat ((IntKind.i64.wrap (4*a31)))) b1.cap 1)).bind fun p_5=>
 if (0:Int)≤2∧2<((((Int.toNat ((IntKind.i64.wrap ((IntKind.i64.wrap (4*a31))+4)))) - (Int.toNat ((IntKind.i64.wrap (4*a31))))):Nat):Int) then(((sla b1.a (Int.toNat ((IntKind.i64.wrap (4*a31)))) b1.cap 1)).bind fun p_6=>
 if (0:Int)≤3∧3<((((Int.toNat ((IntKind.i64.wrap ((IntKind.i64.wrap (4*a31))+4)))) - (Int.toNat ((IntKind.i64.wrap (4*a31))))):Nat):Int) then((ldI .u8 (p_3.add (0*1)) w.drew).bind fun v_7=>
 (ldI .u8 (p_4.add (1*1)) w.drew).bind fun v_8=>
 (ldI .u8 (p_5.add (2*1)) w.drew).bind fun v_9=>
 (ldI .u8 (p_6.add (3*1)) w.drew).bind fun v_10=>
 if (0:Int)≤a31∧a31<((64:Nat):Int) then((stC (w4.add ((Int.toNat a31)*1)) (.int .u32 (bits .or .u32 (bits .or .u32 (bits .or .u32 (IntKind.u32.wrap ((IntKind.u32.wrap v_7)*2 ^ 24)) (IntKind.u32.wrap ((IntKind.u32.wrap v_8)*2 ^ 16))) (IntKind.u32.wrap ((IntKind.u32.wrap v_9)*2 ^ 8))) (IntKind.u32.wrap v_10))) w.drew).bind fun w_11=>
 rec h0 b1 w4 (IntKind.i64.wrap (a31+1)) w_11) else none) else none) else none) else none) else none) else none) else none) else(some ((),w))
noncomputable def K_2s (K:Nat) (n:Nat):Option Addr→Sl→Addr→Int→World→Option ((Unit)×World):=iter (fun _ _ _ _ _=>none) (K_6r K) n
noncomputable def K_6a (K:Nat) (rec:Option Addr→Sl→Addr→Int→World→Option ((Unit)×World)) (h0:Option Addr) (b1:Sl) (w4:Addr) (i7:Int) (w:World):Option ((Unit)×World):=
 if (decide (i7<64))=true then(if (0:Int)≤(IntKind.i64.wrap (i7 - 15))∧(IntKind.i64.wrap (i7 - 15))<((64:Nat):Int) then(if (0:Int)≤(IntKind.i64.wrap (i7 - 2))∧(IntKind.i64.wrap (i7 - 2))<((64:Nat):Int) then((ldI .u32 (w4.add ((Int.toNat (IntKind.i64.wrap (i7 - 15)))*1)) w.drew).bind fun v_14=>
 (ldI .u32 (w4.add ((Int.toNat (IntKind.i64.wrap (i7 - 2)))*1)) w.drew).bind fun v_15=>
 if (0:Int)≤(IntKind.i64.wrap (i7 - 16))∧(IntKind.i64.wrap (i7 - 16))<((64:Nat):Int) then(if (0:Int)≤(IntKind.i64.wrap (i7 - 7))∧(IntKind.i64.wrap (i7 - 7))<((64:Nat):Int) then((ldI .u32 (w4.add ((Int.toNat (IntKind.i64.wrap (i7 - 16)))*1)) w.drew.drew).bind fun v_16=>
 (ldI .u32 (w4.add ((Int.toNat (IntKind.i64.wrap (i7 - 7)))*1)) w.drew.drew).bind fun v_17=>
 (K_6 v_14 (-7)).bind fun r_18=>
 (K_6 v_14 (-18)).bind fun r_19=>
 (K_6 v_15 (-17)).bind fun r_20=>
 (K_6 v_15 (-19)).bind fun r_21=>
 if (0:Int)≤i7∧i7<((64:Nat):Int) then((stC (w4.add ((Int.toNat i7)*1)) (.int .u32 (IntKind.u32.wrap ((IntKind.u32.wrap ((IntKind.u32.wrap (v_16+v_17))+(bits .xor .u32 (bits .xor .u32 r_18.1 r_19.1) (Int.fdiv v_14 (2 ^ 3)))))+(bits .xor .u32 (bits .xor .u32 r_20.1 r_21.1) (Int.fdiv v_15 (2 ^ 10)))))) w.drew.drew).bind fun w_22=>
 rec h0 b1 w4 (IntKind.i64.wrap (i7+1)) w_22) else none) else none) else none) else none) else none) else(some ((),w))
noncomputable def K_2w (K:Nat) (n:Nat):Option Addr→Sl→Addr→Int→World→Option ((Unit)×World):=iter (fun _ _ _ _ _=>none) (K_6a K) n
noncomputable def K_68 (K:Nat) (rec:Option Addr→Sl→Addr→Addr→Int→World→Option ((Unit)×World)) (h0:Option Addr) (b1:Sl) (w4:Addr) (v10:Addr) (a107:Int) (w:World):Option ((Unit)×World):=
 if (decide (a107<8))=true then((h0).bind fun p_27=>
 if (0:Int)≤a107∧a107<((8:Nat):Int) then((ldI .u64 (p_27.add ((Int.toNat a107)*1)) w).bind fun v_28=>
 if (0:Int)≤a107∧a107<((8:Nat):Int) then((stC (v10.add ((Int.toNat a107)*1)) (.int .u32 (IntKind.u32.wrap v_28)) w).bind fun w_29=>
 rec h0 b1 w4 v10 (IntKind.i64.wrap (a107+1)) w_29) else none) else none) else(some ((),w))
noncomputable def K_2t (K:Nat) (n:Nat):Option Addr→Sl→Addr→Addr→Int→World→Option ((Unit)×World):=iter (fun _ _ _ _ _ _=>none) (K_68 K) n
noncomputable def K_6o (K:Nat) (rec:Option Addr→Sl→Addr→Addr→Int→Int→Int→Int→Int→Int→Int→Int→Int→World→Option ((Int×Int×Int×Int×Int×Int×Int×Int×Unit)×World)) (h0:Option Addr) (b1:Sl) (w4:Addr) (v10:Addr) (a12:Int) (b113:Int) (c14:Int) (d15:Int) (e16:Int) (f17:Int) (g18:Int) (k19:Int) (a135:Int) (w:World):Option ((Int×Int×Int×Int×Int×Int×Int×Int×Unit)×World):=
 if (decide (a135<64))=true then(if (0:Int)≤a135∧a135<((80:Nat):Int) then((ldI .u64 ((⟨3,0,none⟩:Addr).add ((Int.toNat a135)*1)) w).bind fun v_40=>
 if (0:Int)≤a135∧a135<((64:Nat):Int) then((K_6 e16 (-6)).bind fun r_41=>
 (K_6 e16 (-11)).bind fun r_42=>
 (K_6 e16 (-25)).bind fun r_43=>
 (ldI .u32 (w4.add ((Int.toNat a135)*1)) w.drew).bind fun v_44=>
 (K_6 a12 (-2)).bind fun r_45=>
 (K_6 a12 (-13)).bind fun r_46=>
 (K_6 a12 (-22)).bind fun r_47=>
 rec h0 b1 w4 v10 (IntKind.u32.wrap ((IntKind.u32.wrap ((IntKind.u32.wrap ((IntKind.u32.wrap ((IntKind.u32.wrap (k19+(bits .xor .u32 (bits .xor .u32 r_41.1 r_42.1) r_43.1)))+(bits .xor .u32 (bits .and .u32 e16 f17) (bits .and .u32 (bits .xor .u32 IntKind.u32.max e16) g18))))+(IntKind.u32.wrap (Int.fdiv v_40 (2 ^ 32)))))+v_44))+(IntKind.u32.wrap ((bits .xor .u32 (bits .xor .u32 r_45.1 r_46.1) r_47.1)+(bits .xor .u32 (bits .xor .u32 (bits .and .u32 a12 b113) (bits .and .u32 a12 c14)) (bits .and .u32 b113 c14)))))) a12 b113 c14 (IntKind.u32.wrap (d15+(IntKind.u32.wrap ((IntKind.u32.wrap ((IntKind.u32.wrap ((IntKind.u32.wrap (k19+(bits .xor .u32 (bits .xor .u32 r_41.1 r_42.1) r_43.1)))+(bits .xor .u32 (bits .and .u32 e16 f17) (bits .and .u32 (bits .xor .u32 IntKind.u32.max e16) g18))))+(IntKind.u32.wrap (Int.fdiv v_40 (2 ^ 32)))))+v_44)))) e16 f17 g18 (IntKind.i64.wrap (a135+1)) w.drew) else none) else none) else(some ((a12,b113,c14,d15,e16,f17,g18,k19,()),w))
noncomputable def K_2m (K:Nat) (n:Nat):Option Addr→Sl→Addr→Addr→Int→Int→Int→Int→Int→Int→Int→Int→Int→World→Option ((Int×Int×Int×Int×Int×Int×Int×Int×Unit)×World):=iter (fun _ _ _ _ _ _ _ _ _ _ _ _ _ _=>none) (K_6o K) n
noncomputable def K_6h (K:Nat) (rec:Option Addr→Sl→Addr→Addr→Array Value→Int→World→Option ((Unit)×World)) (h0:Option Addr) (b1:Sl) (w4:Addr) (v10:Addr) (a209:Array Value) (a210:Int) (w:World):Option ((Unit)×World):=
 if (decide (a210<8))=true then(if (0:Int)≤a210∧a210<((8:Nat):Int) then((a209[((Int.toNat a210)*1)]?).bind fun v_51=>
 (asI .u32 v_51).bind fun v_52=>
 if (0:Int)≤a210∧a210<((8:Nat):Int) then((h0).bind fun p_53=>
 (ldI .u32 (v10.add ((Int.toNat a210)*1)) w.drew).bind fun v_54=>
 if (0:Int)≤a210∧a210<((8:Nat):Int) then((stC (p_53.add ((Int.toNat a210)*1)) (.int .u64 (IntKind.u64.wrap (IntKind.u32.wrap (v_54+v_52)))) w.drew).bind fun w_55=>
 rec h0 b1 w4 v10 a209 (IntKind.i64.wrap (a210+1)) w_55) else none) else none) else none) else(some ((),w))
noncomputable def K_2v (K:Nat) (n:Nat):Option Addr→Sl→Addr→Addr→Array Value→Int→World→Option ((Unit)×World):=iter (fun _ _ _ _ _ _ _=>none) (K_6h K) n
noncomputable def K_1g (K:Nat) (rec:Option Addr→Sl→Addr→World→Option ((Unit)×World)) (h0:Option Addr) (b1:Sl) (w4:Addr) (w:World):Option ((Unit)×World):=
 if (decide (((b1.len:Nat):Int)≥64))=true then(bnd (K_2s K K h0 b1 w4 0 w) fun y_12 w_13=>
 bnd (K_2w K K h0 b1 w4 16 w_13) fun y_23 w_24=>
 bnd (newB z176 176 w_24) fun v_25 w_26=>
 bnd (K_2t K K h0 b1 w4 v_25 0 w_26) fun y_30 w_31=>
 (ldI .u32 (v_25.add (0*1)) w_31.drew).bind fun v_32=>
 (ldI .u32 (v_25.add (1*1)) w_31.drew).bind fun v_33=>
 (ldI .u32 (v_25.add (2*1)) w_31.drew).bind fun v_34=>
 (ldI .u32 (v_25.add (3*1)) w_31.drew).bind fun v_35=>
 (ldI .u32 (v_25.add (4*1)) w_31.drew).bind fun v_36=>
 (ldI .u32 (v_25.add (5*1)) w_31.drew).bind fun v_37=>
 (ldI .u32 (v_25.add (6*1)) w_31.drew).bind fun v_38=>
 (ldI .u32 (v_25.add (7*1)) w_31.drew).bind fun v_39=>
 bnd (K_2m K K h0 b1 w4 v_25 v_32 v_33 v_34 v_35 v_36 v_37 v_38 v_39 0 w_31.drew) fun y_48 w_49=>
 (prog.built 176 [(0,(.int .u32 y_48.1)),(1,(.int .u32 y_48.2.1)),(2,(.int .u32 y_48.2.2.1)),(3,(.int .u32 y_48.2.2.2.1)),(4,(.int .u32 y_48.2.2.2.2.1)),(5,(.int .u32 y_48.2.2.2.2.2.1)),(6,(.int .u32 y_48.2.2.2.2.2.2.1)),(7,(.int .u32 y_48.2.2.2.2.2.2.2.1))]).bind fun cs_50=>
 bnd (K_2v K K h0 b1 w4 v_25 cs_50 0 w_49) fun y_56 w_57=>
 if (0:Int)≤64∧64≤((b1.len:Nat):Int) then(rec h0 ⟨(sla b1.a 64 b1.cap 1),(b1.len - 64),(b1.cap - 64)⟩ w4 w_57) else none) else(some ((),w))
noncomputable def K_1m (K:Nat) (n:Nat):Option Addr→Sl→Addr→World→Option ((Unit)×World):=iter (fun _ _ _ _=>none) (K_1g K) n
noncomputable def K_5o (K:Nat) (h0:Option Addr) (b1:Sl) (w:World):Option ((Unit)×World):=
 bnd (newB z174 174 w) fun w_1 w_2=>
 bnd (K_1m K K h0 b1 w_1 w_2) fun y_58 w_59=>
 some ((),w_59)
theorem K_x8(K:Nat)(n:Nat):StmtNOk prog [(0,.ptr),(1,.sl),(4,.addr),(31,.int .i64)] [] [(5,7),(31,66)] ((fun n x w=>K_2s K n x.1 x.2.1 x.2.2.1 x.2.2.2.1 w) n) (.block 2 (.loop (cd (bodyOf f113) [1,0,0,1,0,0,0,1,0,0]))):=
  K_4 (O:=tabL []) (root:=(bodyOf f113)) (π:=[1,0,0,1,0,0,0,1,0,0]) (Li:=[(0,.ptr),(1,.sl),(4,.addr),(31,.int .i64)]) (Lo:=[]) (S:=(fun n x w=>K_2s K n x.1 x.2.1 x.2.2.1 x.2.2.2.1 w)) (K_3i K) (K_3f K) rfl (Orc.nil _ _ _) (by kernel_rfl) (fun _ _=>by kernel_rfl) (fun _ _ _=>by kernel_rfl) n
noncomputable def K_d2 (K:Nat):SE:=stmtN [(0,.ptr),(1,.sl),(4,.addr),(31,.int .i64)] [] [(5,7),(31,66)] (fun x w=>K_2s K K x.1 x.2.1 x.2.2.1 x.2.2.2.1 w)
theorem K_g3(K:Nat)(R:Rg)(h:subRB [(5,7),(31,66)] R=true):(K_d2 K).Ok prog R (.block 2 (.loop (cd (bodyOf f113) [1,0,0,1,0,0,0,1,0,0]))):=K_2 (K_x8 K K) (K_0 h)
theorem K_wg(K:Nat)(n:Nat):StmtNOk prog [(0,.ptr),(1,.sl),(4,.addr),(7,.int .i64)] [] [(7,10),(66,107)] ((fun n x w=>K_2w K n x.1 x.2.1 x.2.2.1 x.2.2.2.1 w) n) (.block 4 (.loop (cd (bodyOf f113) [1,0,0,1,0,0,1,0,1,0,0]))):=
  K_4 (O:=tabL []) (root:=(bodyOf f113)) (π:=[1,0,0,1,0,0,1,0,1,0,0]) (Li:=[(0,.ptr),(1,.sl),(4,.addr),(7,.int .i64)]) (Lo:=[]) (S:=(fun n x w=>K_2w K n x.1 x.2.1 x.2.2.1 x.2.2.2.1 w)) (K_3i K) (K_3f K) rfl (Orc.nil _ _ _) (by kernel_rfl) (fun _ _=>by kernel_rfl) (fun _ _ _=>by kernel_rfl) n
noncomputable def K_d7 (K:Nat):SE:=stmtN [(0,.ptr),(1,.sl),(4,.addr),(7,.int .i64)] [] [(7,10),(66,107)] (fun x w=>K_2w K K x.1 x.2.1 x.2.2.1 x.2.2.2.1 w)
theorem K_fz(K:Nat)(R:Rg)(h:subRB [(7,10),(66,107)] R=true):(K_d7 K).Ok prog R (.block 4 (.loop (cd (bodyOf f113) [1,0,0,1,0,0,1,0,1,0,0]))):=K_2 (K_wg K K) (K_0 h)
theorem K_wi(K:Nat)(n:Nat):StmtNOk prog [(0,.ptr),(1,.sl),(4,.addr),(10,.addr),(107,.int .i64)] [] [(11,12),(107,119)] ((fun n x w=>K_2t K n x.1 x.2.1 x.2.2.1 x.2.2.2.1 x.2.2.2.2.1 w) n) (.block 6 (.loop (cd (bodyOf f113) [1,0,0,1,0,0,1,1,1,0,1,0,0]))):=
  K_4 (O:=tabL []) (root:=(bodyOf f113)) (π:=[1,0,0,1,0,0,1,1,1,0,1,0,0]) (Li:=[(0,.ptr),(1,.sl),(4,.addr),(10,.addr),(107,.int .i64)]) (Lo:=[]) (S:=(fun n x w=>K_2t K n x.1 x.2.1 x.2.2.1 x.2.2.2.1 x.2.2.2.2.1 w)) (K_3i K) (K_3f K) rfl (Orc.nil _ _ _) (by kernel_rfl) (fun _ _=>by kernel_rfl) (fun _ _ _=>by kernel_rfl) n
noncomputable def K_d8 (K:Nat):SE:=stmtN [(0,.ptr),(1,.sl),(4,.addr),(10,.addr),(107,.int .i64)] [] [(11,12),(107,119)] (fun x w=>K_2t K K x.1 x.2.1 x.2.2.1 x.2.2.2.1 x.2.2.2.2.1 w)
theorem K_ft(K:Nat)(R:Rg)(h:subRB [(11,12),(107,119)] R=true):(K_d8 K).Ok prog R (.block 6 (.loop (cd (bodyOf f113) [1,0,0,1,0,0,1,1,1,0,1,0,0]))):=K_2 (K_wi K K) (K_0 h)
theorem K_w0(K:Nat)(n:Nat):StmtNOk prog [(0,.ptr),(1,.sl),(4,.addr),(10,.addr),(12,.int .u32),(13,.int .u32),(14,.int .u32),(15,.int .u32),(16,.int .u32),(17,.int .u32),(18,.int .u32),(19,.int .u32),(135,.int .i64)] [(12,.int .u32),(13,.int .u32),(14,.int .u32),(15,.int .u32),(16,.int .u32),(17,.int .u32),(18,.int .u32),(19,.int .u32)] [(12,24),(135,201)] ((fun n x w=>K_2m K n x.1 x.2.1 x.2.2.1 x.2.2.2.1 x.2.2.2.2.1 x.2.2.2.2.2.1 x.2.2.2.2.2.2.1 x.2.2.2.2.2.2.2.1 x.2.2.2.2.2.2.2.2.1 x.2.2.2.2.2.2.2.2.2.1 x.2.2.2.2.2.2.2.2.2.2.1 x.2.2.2.2.2.2.2.2.2.2.2.1 x.2.2.2.2.2.2.2.2.2.2.2.2.1 w) n) (.block 8 (.loop (cd (bodyOf f113) [1,0,0,1,0,0,1,1,1,1,1,0,1,0,0]))):=
  K_4 (O:=tabL []) (root:=(bodyOf f113)) (π:=[1,0,0,1,0,0,1,1,1,1,1,0,1,0,0]) (Li:=[(0,.ptr),(1,.sl),(4,.addr),(10,.addr),(12,.int .u32),(13,.int .u32),(14,.int .u32),(15,.int .u32),(16,.int .u32),(17,.int .u32),(18,.int .u32),(19,.int .u32),(135,.int .i64)]) (Lo:=[(12,.int .u32),(13,.int .u32),(14,.int .u32),(15,.int .u32),(16,.int .u32),(17,.int .u32),(18,.int .u32),(19,.int .u32)]) (S:=(fun n x w=>K_2m K n x.1 x.2.1 x.2.2.1 x.2.2.2.1 x.2.2.2.2.1 x.2.2.2.2.2.1 x.2.2.2.2.2.2.1 x.2.2.2.2.2.2.2.1 x.2.2.2.2.2.2.2.2.1 x.2.2.2.2.2.2.2.2.2.1 x.2.2.2.2.2.2.2.2.2.2.1 x.2.2.2.2.2.2.2.2.2.2.2.1 x.2.2.2.2.2.2.2.2.2.2.2.2.1 w)) (K_3i K) (K_3f K) rfl (Orc.nil _ _ _) (by kernel_rfl) (fun _ _=>by kernel_rfl) (fun _ _ _=>by kernel_rfl) n
noncomputable def K_df (K:Nat):SE:=stmtN [(0,.ptr),(1,.sl),(4,.addr),(10,.addr),(12,.int .u32),(13,.int .u32),(14,.int .u32),(15,.int .u32),(16,.int .u32),(17,.int .u32),(18,.int .u32),(19,.int .u32),(135,.int .i64)] [(12,.int .u32),(13,.int .u32),(14,.int .u32),(15,.int .u32),(16,.int .u32),(17,.int .u32),(18,.int .u32),(19,.int .u32)] [(12,24),(135,201)] (fun x w=>K_2m K K x.1 x.2.1 x.2.2.1 x.2.2.2.1 x.2.2.2.2.1 x.2.2.2.2.2.1 x.2.2.2.2.2.2.1 x.2.2.2.2.2.2.2.1 x.2.2.2.2.2.2.2.2.1 x.2.2.2.2.2.2.2.2.2.1 x.2.2.2.2.2.2.2.2.2.2.1 x.2.2.2.2.2.2.2.2.2.2.2.1 x.2.2.2.2.2.2.2.2.2.2.2.2.1 w)
theorem K_fv(K:Nat)(R:Rg)(h:subRB [(12,24),(135,201)] R=true):(K_df K).Ok prog R (.block 8 (.loop (cd (bodyOf f113) [1,0,0,1,0,0,1,1,1,1,1,0,1,0,0]))):=K_2 (K_w0 K K) (K_0 h)
theorem K_x2(K:Nat)(n:Nat):StmtNOk prog [(0,.ptr),(1,.sl),(4,.addr),(10,.addr),(209,.agg),(210,.int .i64)] [] [(24,26),(210,225)] ((fun n x w=>K_2v K n x.1 x.2.1 x.2.2.1 x.2.2.2.1 x.2.2.2.2.1 x.2.2.2.2.2.1 w) n) (.block 10 (.loop (cd (bodyOf f113) [1,0,0,1,0,0,1,1,1,1,1,1,1,0,0]))):=
  K_4 (O:=tabL []) (root:=(bodyOf f113)) (π:=[1,0,0,1,0,0,1,1,1,1,1,1,1,0,0]) (Li:=[(0,.ptr),(1,.sl),(4,.addr),(10,.addr),(209,.agg),(210,.int .i64)]) (Lo:=[]) (S:=(fun n x w=>K_2v K n x.1 x.2.1 x.2.2.1 x.2.2.2.1 x.2.2.2.2.1 x.2.2.2.2.2.1 w)) (K_3i K) (K_3f K) rfl (Orc.nil _ _ _) (by kernel_rfl) (fun _ _=>by kernel_rfl) (fun _ _ _=>by kernel_rfl) n
noncomputable def K_dc (K:Nat):SE:=stmtN [(0,.ptr),(1,.sl),(4,.addr),(10,.addr),(209,.agg),(210,.int .i64)] [] [(24,26),(210,225)] (fun x w=>K_2v K K x.1 x.2.1 x.2.2.1 x.2.2.2.1 x.2.2.2.2.1 x.2.2.2.2.2.1 w)
theorem K_g4(K:Nat)(R:Rg)(h:subRB [(24,26),(210,225)] R=true):(K_dc K).Ok prog R (.block 10 (.loop (cd (bodyOf f113) [1,0,0,1,0,0,1,1,1,1,1,1,1,0,0]))):=K_2 (K_x2 K K) (K_0 h)
theorem K_wq(K:Nat)(n:Nat):StmtNOk prog [(0,.ptr),(1,.sl),(4,.addr)] [] [(1,2),(5,225)] ((fun n x w=>K_1m K n x.1 x.2.1 x.2.2.1 w) n) (.block 0 (.loop (cd (bodyOf f113) [1,0,0]))):=
  K_4 (O:=tabL [([1,0,0,1,0,0,0,1],K_d2 K),([1,0,0,1,0,0,1,0,1],K_d7 K),([1,0,0,1,0,0,1,1,1,0,1],K_d8 K),([1,0,0,1,0,0,1,1,1,1,1,0,1],K_df K),([1,0,0,1,0,0,1,1,1,1,1,1,1],K_dc K)]) (root:=(bodyOf f113)) (π:=[1,0,0]) (Li:=[(0,.ptr),(1,.sl),(4,.addr)]) (Lo:=[]) (S:=(fun n x w=>K_1m K n x.1 x.2.1 x.2.2.1 w)) (K_3i K) (K_3f K) rfl (Orc.cons (by kernel_rfl) (K_g3 K [(1,2),(5,225)] (by kernel_rfl)) (Orc.cons (by kernel_rfl) (K_fz K [(1,2),(5,225)] (by kernel_rfl)) (Orc.cons (by kernel_rfl) (K_ft K [(1,2),(5,225)] (by kernel_rfl)) (Orc.cons (by kernel_rfl) (K_fv K [(1,2),(5,225)] (by kernel_rfl)) (Orc.cons (by kernel_rfl) (K_g4 K [(1,2),(5,225)] (by kernel_rfl)) (Orc.nil _ _ _)))))) (by kernel_rfl) (fun _ _=>by kernel_rfl) (fun _ _ _=>by kernel_rfl) n
noncomputable def K_ii (K:Nat):SE:=stmtN [(0,.ptr),(1,.sl),(4,.addr)] [] [(1,2),(5,225)] (fun x w=>K_1m K K x.1 x.2.1 x.2.2.1 w)
theorem K_qx(K:Nat)(R:Rg)(h:subRB [(1,2),(5,225)] R=true):(K_ii K).Ok prog R (.block 0 (.loop (cd (bodyOf f113) [1,0,0]))):=K_2 (K_wq K K) (K_0 h)
theorem K_iz:FunFacts prog 113 f113 (bodyOf f113) [(0,.ptr),(1,.sl)] [(0,225)]:=⟨func113,by kernel_rfl,by kernel_rfl,by kernel_rfl,by kernel_rfl,by kernel_rfl⟩
theorem K_vq(K:Nat)(x:TT [(0,.ptr),(1,.sl)])(w:World)(y:TR [])(w2:World)(h:K_5o K x.1 x.2.1 w=some (y,w2)):Calls prog 113 (encA [(0,.ptr),(1,.sl)] x).toArray w (fun e w3=>e= .returned (resV (encR [] y))∧w3=w2):=
  K_b (O:=tabL [([1],K_ii K),([1,0,0,1,0,0,0,1],K_d2 K),([1,0,0,1,0,0,1,0,1],K_d7 K),([1,0,0,1,0,0,1,1,1,0,1],K_d8 K),([1,0,0,1,0,0,1,1,1,1,1,0,1],K_df K),([1,0,0,1,0,0,1,1,1,1,1,1,1],K_dc K)]) (Lp:=[(0,.ptr),(1,.sl)]) (Rt:=[]) (S:=(fun x w=>K_5o K x.1 x.2.1 w)) (K_3i K) (K_3f K) rfl K_iz (Orc.cons (by kernel_rfl) (K_qx K [(0,225)] (by kernel_rfl)) (Orc.cons (by kernel_rfl) (K_g3 K [(0,225)] (by kernel_rfl)) (Orc.cons (by kernel_rfl) (K_fz K [(0,225)] (by kernel_rfl)) (Orc.cons (by kernel_rfl) (K_ft K [(0,225)] (by kernel_rfl)) (Orc.cons (by kernel_rfl) (K_fv K [(0,225)] (by kernel_rfl)) (Orc.cons (by kernel_rfl) (K_g4 K [(0,225)] (by kernel_rfl)) (Orc.nil _ _ _))))))) (fun _ _=>by kernel_rfl) x w y w2 h
noncomputable def K_nr (K:Nat):CE:=funE [(0,.ptr),(1,.sl)] [] (fun x w=>K_5o K x.1 x.2.1 w)
theorem K_13d(K:Nat):(K_nr K).Ok prog 113:=K_8 K_iz fun x w y w2 h=>K_vq K x w y w2 h
noncomputable def K_5u (K:Nat):List (Nat×CE):=[(113,K_nr K),(114,K_t0 K)]
theorem K_h4(K:Nat):Env.Ok prog (tab (K_5u K)):=(Env.cons (K_13d K) (Env.cons (K_16v K) (Env.nil _)))
noncomputable def K_vu (K:Nat):List (Nat×RE):=[]
theorem K_h7(K:Nat):REnv.Ok prog (tab (K_vu K)):=(REnv.nil _)
noncomputable def K_14 (K:Nat) (s0:Option Addr) (b1:Sl) (at4:Int) (a30:Bool) (w:World):Option ((Out (Sl×Unit) (Unit))×World):=
 if a30=true then((s0).bind fun p_9=>
 (s0).bind fun p_10=>
 (ldI .i64 ((p_10.add 0).add 1) w.drew).bind fun v_11=>
 if (0:Int)≤v_11∧v_11≤((128:Nat):Int) then(if (0:Int)≤at4∧at4≤(((Int.toNat (v_11)):Nat):Int) then(bnd (cpy prog 23 23 (.slice (sla (some (p_9.add 14)) (Int.toNat (at4)) 128 1) ((Int.toNat (v_11)) - (Int.toNat (at4))) (128 - (Int.toNat (at4)))) (.slice b1.a b1.len b1.cap) w.drew) fun s_12 w_13=>
 if (0:Int)≤s_12∧s_12≤((b1.len:Nat):Int) then((s0).bind fun p_14=>
 (ldI .i64 ((p_14.add 0).add 1) w_13).bind fun v_15=>
 if (decide ((IntKind.i64.wrap (at4+s_12))<v_15))=true then(some (.ret (),w_13)) else((s0).bind fun p_16=>
 (s0).bind fun p_17=>
 (s0).bind fun p_18=>
 (s0).bind fun p_19=>
 (ldV ((p_16.add 0).add 3) w_13.drew).bind fun v_20=>
 (ldI .i64 ((p_19.add 0).add 1) w_13.drew).bind fun v_21=>
 if (0:Int)≤v_21∧v_21≤((128:Nat):Int) then(dyn (tab (K_5u K)) v_20 [(.pointer (some (p_17.add 6))),(.slice (sla (some (p_18.add 14)) 0 128 1) ((Int.toNat (v_21)) - 0) (128 - 0))] w_13.drew fun v_22 w_23=>
 some (.norm (⟨(sla b1.a (Int.toNat (s_12)) b1.cap 1),(b1.len - (Int.toNat (s_12))),(b1.cap - (Int.toNat (s_12)))⟩,()),w_23)) else none)) else none) else none) else none) else(some (.norm (b1,()),w))
noncomputable def K_3e (K:Nat) (s0:Option Addr) (b1:Sl) (w:World):Option ((Unit)×World):=
 (s0).bind fun p_1=>
 (s0).bind fun p_2=>
 (ldI .u64 (p_1.add 5) w.drew).bind fun v_3=>
 (ldI .i64 ((p_2.add 0).add 1) w.drew).bind fun v_4=>
 if (IntKind.u64.wrap v_4)≠0 then((s0).bind fun p_5=>
 (ldI .u64 (p_5.add 5) w.drew).bind fun v_6=>
 (s0).bind fun p_7=>
 (stC (p_7.add 5) (.int .u64 (IntKind.u64.wrap (v_6+(IntKind.u64.wrap ((b1.len:Nat):Int))))) w.drew).bind fun w_8=>
 bnd (K_14 K s0 b1 (IntKind.i64.wrap (Int.tmod v_3 (IntKind.u64.wrap v_4))) (decide ((IntKind.i64.wrap (Int.tmod v_3 (IntKind.u64.wrap v_4))) > 0)) w_8) fun y_24 w_25=>
 (match y_24 with
 | .norm z_26n=>((s0).bind fun p_27=>
 (s0).bind fun p_28=>
 (ldI .i64 ((p_27.add 0).add 1) w_25.drew).bind fun v_29=>
 if v_29≠0 then((ldI .i64 ((p_28.add 0).add 1) w_25.drew).bind fun v_30=>
 (s0).bind fun p_31=>
 (s0).bind fun p_32=>
 if (0:Int)≤(IntKind.i64.wrap ((IntKind.i64.wrap (Int.tdiv ((z_26n.1.len:Nat):Int) v_29))*v_30))∧(IntKind.i64.wrap ((IntKind.i64.wrap (Int.tdiv ((z_26n.1.len:Nat):Int) v_29))*v_30))≤((z_26n.1.cap:Nat):Int) then((ldV ((p_31.add 0).add 3) w_25.drew.drew).bind fun v_33=>
 dyn (tab (K_5u K)) v_33 [(.pointer (some (p_32.add 6))),(.slice (sla z_26n.1.a 0 z_26n.1.cap 1) ((Int.toNat ((IntKind.i64.wrap ((IntKind.i64.wrap (Int.tdiv ((z_26n.1.len:Nat):Int) v_29))*v_30)))) - 0) (z_26n.1.cap - 0))] w_25.drew.drew fun v_34 w_35=>
 (s0).bind fun p_36=>
 if (0:Int)≤(IntKind.i64.wrap ((IntKind.i64.wrap (Int.tdiv ((z_26n.1.len:Nat):Int) v_29))*v_30))∧(IntKind.i64.wrap ((IntKind.i64.wrap (Int.tdiv ((z_26n.1.len:Nat):Int) v_29))*v_30))≤((z_26n.1.len:Nat):Int) then(bnd (cpy prog 23 23 (.slice (sla (some (p_36.add 14)) 0 128 1) (128 - 0) (128 - 0)) (.slice (sla z_26n.1.a (Int.toNat ((IntKind.i64.wrap ((IntKind.i64.wrap (Int.tdiv ((z_26n.1.len:Nat):Int) v_29))*v_30)))) z_26n.1.cap 1) (z_26n.1.len - (Int.toNat ((IntKind.i64.wrap ((IntKind.i64.wrap (Int.tdiv ((z_26n.1.len:Nat):Int) v_29))*v_30))))) (z_26n.1.cap - (Int.toNat ((IntKind.i64.wrap ((IntKind.i64.wrap (Int.tdiv ((z_26n.1.len:Nat):Int) v_29))*v_30)))))) w_35.drew) fun s_37 w_38=>
 some ((),w_38)) else none) else none) else none)
 | .ret z_26r=>(some ((),w_25)))) else none
theorem K_p8(K:Nat):StmtOk prog [(0,.ptr),(1,.sl),(4,.int .i64),(30,.bool)] [(1,.sl)] [] [(1,2),(5,6),(31,73)] (fun x w=>K_14 K x.1 x.2.1 x.2.2.1 x.2.2.2.1 w) (cd (bodyOf f128) [1,1,0,1]):=
  K_1dt (O:=tabL []) (root:=(bodyOf f128)) (π:=[1,1,0,1]) (K_h4 K) (K_h7 K) rfl (Orc.nil _ _ _) (by kernel_rfl) (fun _ _=>by kernel_rfl)
noncomputable def K_f1 (K:Nat):SE:=stmt [(0,.ptr),(1,.sl),(4,.int .i64),(30,.bool)] [(1,.sl)] [] [(1,2),(5,6),(31,73)] (fun x w=>K_14 K x.1 x.2.1 x.2.2.1 x.2.2.2.1 w)
theorem K_lh(K:Nat)(R:Rg)(h:subRB [(1,2),(5,6),(31,73)] R=true):(K_f1 K).Ok prog R (cd (bodyOf f128) [1,1,0,1]):=K_1o (K_p8 K) (K_0 h)
theorem K_f5:FunFacts prog 128 f128 (bodyOf f128) [(0,.ptr),(1,.sl)] [(0,107)]:=⟨func128,by kernel_rfl,by kernel_rfl,by kernel_rfl,by kernel_rfl,by kernel_rfl⟩
theorem K_p7(K:Nat)(x:TT [(0,.ptr),(1,.sl)])(w:World)(y:TR [])(w2:World)(h:K_3e K x.1 x.2.1 w=some (y,w2)):Calls prog 128 (encA [(0,.ptr),(1,.sl)] x).toArray w (fun e w3=>e= .returned (resV (encR [] y))∧w3=w2):=
  K_b (O:=tabL [([1,1,0,1],K_f1 K)]) (Lp:=[(0,.ptr),(1,.sl)]) (Rt:=[]) (S:=(fun x w=>K_3e K x.1 x.2.1 w)) (K_h4 K) (K_h7 K) rfl K_f5 (Orc.cons (by kernel_rfl) (K_lh K [(0,107)] (by kernel_rfl)) (Orc.nil _ _ _)) (fun _ _=>by kernel_rfl) x w y w2 h
noncomputable def K_cg (K:Nat):CE:=funE [(0,.ptr),(1,.sl)] [] (fun x w=>K_3e K x.1 x.2.1 w)
theorem K_hr(K:Nat):(K_cg K).Ok prog 128:=K_8 K_f5 fun x w y w2 h=>K_p7 K x w y w2 h
noncomputable def K_ta (K:Nat):List (Nat×CE):=[(128,K_cg K)]
theorem K_f4(K:Nat):Env.Ok prog (tab (K_ta K)):=(Env.cons (K_hr K) (Env.nil _))
noncomputable def K_sz (K:Nat):List (Nat×RE):=[(127,K_pv K)]
theorem K_fc(K:Nat):REnv.Ok prog (tab (K_sz K)):=(REnv.cons (K_15g K) (REnv.nil _))
noncomputable def K_2n (K:Nat) (rec:Option Addr→Sl→Int→Int→World→Option ((Unit)×World)) (s0:Option Addr) (a19:Sl) (a20:Int) (a21:Int) (w:World):Option ((Unit)×World):=
 if (decide (a21<a20))=true then((a19.a).bind fun p_4=>
 if (0:Int)≤a21∧a21<((a19.len:Nat):Int) then((ldS (p_4.add ((Int.toNat a21)*1)) w).bind fun v_5=>
 (s0).bind fun p_6=>
 bnd (K_3e K (some (p_6.add 0)) v_5 w) fun r_7 w_8=>
 rec s0 a19 a20 (IntKind.i64.wrap (a21+1)) w_8) else none) else(some ((),w))
noncomputable def K_18 (K:Nat) (n:Nat):Option Addr→Sl→Int→Int→World→Option ((Unit)×World):=iter (fun _ _ _ _ _=>none) (K_2n K) n
noncomputable def K_41 (K:Nat) (s0:Option Addr) (parts1:Sl) (w:World):Option ((Int×Unit)×World):=
 if s0.isNone=true then(some ((1,()),w)) else((s0).bind fun p_1=>
 (ldI .u64 ((p_1.add 0).add 5) w.drew).bind fun v_2=>
 (K_bj K parts1 w.drew).bind fun r_3=>
 if (decide ((IntKind.u64.wrap (v_2+(IntKind.u64.wrap r_3.1))) > 33554432))=true then(some ((4,()),w.drew)) else(bnd (K_18 K K s0 parts1 ((parts1.len:Nat):Int) 0 w.drew) fun y_9 w_10=>
 some ((0,()),w_10)))
theorem K_mt(K:Nat)(n:Nat):StmtNOk prog [(0,.ptr),(19,.sl),(20,.int .i64),(21,.int .i64)] [] [(6,7),(21,31)] ((fun n x w=>K_18 K n x.1 x.2.1 x.2.2.1 x.2.2.2.1 w) n) (.block 0 (.loop (cd (bodyOf f106) [1,1,1,0,1,0,0]))):=
  K_4 (O:=tabL []) (root:=(bodyOf f106)) (π:=[1,1,1,0,1,0,0]) (Li:=[(0,.ptr),(19,.sl),(20,.int .i64),(21,.int .i64)]) (Lo:=[]) (S:=(fun n x w=>K_18 K n x.1 x.2.1 x.2.2.1 x.2.2.2.1 w)) (K_f4 K) (K_fc K) rfl (Orc.nil _ _ _) (by kernel_rfl) (fun _ _=>by kernel_rfl) (fun _ _ _=>by kernel_rfl) n
noncomputable def K_dj (K:Nat):SE:=stmtN [(0,.ptr),(19,.sl),(20,.int .i64),(21,.int .i64)] [] [(6,7),(21,31)] (fun x w=>K_18 K K x.1 x.2.1 x.2.2.1 x.2.2.2.1 w)
theorem K_jj(K:Nat)(R:Rg)(h:subRB [(6,7),(21,31)] R=true):(K_dj K).Ok prog R (.block 0 (.loop (cd (bodyOf f106) [1,1,1,0,1,0,0]))):=K_2 (K_mt K K) (K_0 h)
theorem K_dg:FunFacts prog 106 f106 (bodyOf f106) [(0,.ptr),(1,.sl)] [(0,31)]:=⟨func106,by kernel_rfl,by kernel_rfl,by kernel_rfl,by kernel_rfl,by kernel_rfl⟩
theorem K_mu(K:Nat)(x:TT [(0,.ptr),(1,.sl)])(w:World)(y:TR [.int .i64])(w2:World)(h:K_41 K x.1 x.2.1 w=some (y,w2)):Calls prog 106 (encA [(0,.ptr),(1,.sl)] x).toArray w (fun e w3=>e= .returned (resV (encR [.int .i64] y))∧w3=w2):=
  K_b (O:=tabL [([1,1,1,0,1],K_dj K)]) (Lp:=[(0,.ptr),(1,.sl)]) (Rt:=[.int .i64]) (S:=(fun x w=>K_41 K x.1 x.2.1 w)) (K_f4 K) (K_fc K) rfl K_dg (Orc.cons (by kernel_rfl) (K_jj K [(0,31)] (by kernel_rfl)) (Orc.nil _ _ _)) (fun _ _=>by kernel_rfl) x w y w2 h
noncomputable def K_fy (K:Nat):CE:=funE [(0,.ptr),(1,.sl)] [.int .i64] (fun x w=>K_41 K x.1 x.2.1 w)
theorem K_qk(K:Nat):(K_fy K).Ok prog 106:=K_8 K_dg fun x w y w2 h=>K_mu K x w y w2 h
end Go.Sh

namespace Go.Sh
open Go.Fw Go.Proofs.Tryd
noncomputable def K_1af (K:Nat):List (Nat×CE):=[]
theorem K_r7(K:Nat):Env.Ok prog (tab (K_1af K)):=(Env.nil _)
noncomputable def K_1a1 (K:Nat):List (Nat×RE):=[]
theorem K_t4(K:Nat):REnv.Ok prog (tab (K_1a1 K)):=(REnv.nil _)
noncomputable def K_9s (K:Nat) (rec:Sl→Int→Int→World→Option ((Sl×Unit)×World)) (out0:Sl) (x1:Int) (i7:Int) (w:World):Option ((Sl×Unit)×World):=
 if (decide (i7≥0))=true then(if (0:Int)≤(IntKind.i64.wrap (8*i7)) then(bnd (bldS prog 23 1 #[(0,(.int .u8 (IntKind.u8.wrap (Int.fdiv x1 (2 ^ (min (Int.toNat (IntKind.i64.wrap (8*i7))) IntKind.u64.bits))))))] w) fun s_1 w_2=>
 bnd (apd prog 23 23 (.slice out0.a out0.len out0.cap) (.slice s_1.a s_1.len s_1.cap) w_2) fun s_3 w_4=>
 rec s_3 x1 (IntKind.i64.wrap (i7 - 1)) w_4) else none) else(some ((out0,()),w))
noncomputable def K_75 (K:Nat) (n:Nat):Sl→Int→Int→World→Option ((Sl×Unit)×World):=iter (fun _ _ _ _=>none) (K_9s K) n
noncomputable def K_et (K:Nat) (out0:Sl) (x1:Int) (n2:Int) (w:World):Option ((Sl×Unit)×World):=
 bnd (K_75 K K out0 x1 (IntKind.i64.wrap (n2 - 1)) w) fun y_5 w_6=>
 some ((y_5.1,()),w_6)
theorem K_13q(K:Nat)(n:Nat):StmtNOk prog [(0,.sl),(1,.int .u64),(7,.int .i64)] [(0,.sl)] [(0,1),(7,8),(10,22)] ((fun n x w=>K_75 K n x.1 x.2.1 x.2.2.1 w) n) (.block 0 (.loop (cd (bodyOf f137) [1,0,1,0,0]))):=
  K_4 (O:=tabL []) (root:=(bodyOf f137)) (π:=[1,0,1,0,0]) (Li:=[(0,.sl),(1,.int .u64),(7,.int .i64)]) (Lo:=[(0,.sl)]) (S:=(fun n x w=>K_75 K n x.1 x.2.1 x.2.2.1 w)) (K_r7 K) (K_t4 K) rfl (Orc.nil _ _ _) (by kernel_rfl) (fun _ _=>by kernel_rfl) (fun _ _ _=>by kernel_rfl) n
noncomputable def K_oj (K:Nat):SE:=stmtN [(0,.sl),(1,.int .u64),(7,.int .i64)] [(0,.sl)] [(0,1),(7,8),(10,22)] (fun x w=>K_75 K K x.1 x.2.1 x.2.2.1 w)
theorem K_ws(K:Nat)(R:Rg)(h:subRB [(0,1),(7,8),(10,22)] R=true):(K_oj K).Ok prog R (.block 0 (.loop (cd (bodyOf f137) [1,0,1,0,0]))):=K_2 (K_13q K K) (K_0 h)
theorem K_od:FunFacts prog 137 f137 (bodyOf f137) [(0,.sl),(1,.int .u64),(2,.int .i64)] [(0,23)]:=⟨func137,by kernel_rfl,by kernel_rfl,by kernel_rfl,by kernel_rfl,by kernel_rfl⟩
theorem K_12p(K:Nat)(x:TT [(0,.sl),(1,.int .u64),(2,.int .i64)])(w:World)(y:TR [.sl])(w2:World)(h:K_et K x.1 x.2.1 x.2.2.1 w=some (y,w2)):Calls prog 137 (encA [(0,.sl),(1,.int .u64),(2,.int .i64)] x).toArray w (fun e w3=>e= .returned (resV (encR [.sl] y))∧w3=w2):=
  K_b (O:=tabL [([1,0,1],K_oj K)]) (Lp:=[(0,.sl),(1,.int .u64),(2,.int .i64)]) (Rt:=[.sl]) (S:=(fun x w=>K_et K x.1 x.2.1 x.2.2.1 w)) (K_r7 K) (K_t4 K) rfl K_od (Orc.cons (by kernel_rfl) (K_ws K [(0,23)] (by kernel_rfl)) (Orc.nil _ _ _)) (fun _ _=>by kernel_rfl) x w y w2 h
noncomputable def K_ve (K:Nat):CE:=funE [(0,.sl),(1,.int .u64),(2,.int .i64)] [.sl] (fun x w=>K_et K x.1 x.2.1 x.2.2.1 w)
theorem K_18m(K:Nat):(K_ve K).Ok prog 137:=K_8 K_od fun x w y w2 h=>K_12p K x w y w2 h
noncomputable def K_xk (K:Nat):List (Nat×CE):=[(128,K_cg K),(137,K_ve K)]
theorem K_80(K:Nat):Env.Ok prog (tab (K_xk K)):=(Env.cons (K_hr K) (Env.cons (K_18m K) (Env.nil _)))
noncomputable def K_xf (K:Nat):List (Nat×RE):=[]
theorem K_7x(K:Nat):REnv.Ok prog (tab (K_xf K)):=(REnv.nil _)
noncomputable def K_4r (K:Nat) (rec:Addr→Int→Addr→Int→World→Option ((Int×Unit)×World)) (s1:Addr) (bits3:Int) (pad4:Addr) (n5:Int) (w:World):Option ((Int×Unit)×World):=
 (ldI .u64 (s1.add 5) w.drew).bind fun v_7=>
 (ldI .i64 ((s1.add 0).add 1) w.drew).bind fun v_8=>
 if (IntKind.u64.wrap v_8)≠0 then((ldI .i64 ((s1.add 0).add 2) w.drew).bind fun v_9=>
 (ldI .i64 ((s1.add 0).add 1) w.drew).bind fun v_10=>
 if v_10≠0 then(if ((Int.tmod (IntKind.i64.wrap ((IntKind.i64.wrap ((IntKind.i64.wrap (Int.tmod v_7 (IntKind.u64.wrap v_8)))+n5))+(IntKind.i64.wrap (2*v_9)))) v_10) != 0)=true then(rec s1 bits3 pad4 (IntKind.i64.wrap (n5+1)) w.drew) else(some ((n5,()),w.drew))) else none) else none
noncomputable def K_1q (K:Nat) (n:Nat):Addr→Int→Addr→Int→World→Option ((Int×Unit)×World):=iter (fun _ _ _ _ _=>none) (K_4r K) n
noncomputable def K_4i (K:Nat) (rec:Addr→Int→Addr→Int→Int→World→Option ((Unit)×World)) (s1:Addr) (bits3:Int) (pad4:Addr) (n5:Int) (a42:Int) (w:World):Option ((Unit)×World):=
 if (decide (a42<8))=true then(if (0:Int)≤(IntKind.i64.wrap (8*a42)) then(if (0:Int)≤(IntKind.i64.wrap ((IntKind.i64.wrap (n5 - 1)) - a42))∧(IntKind.i64.wrap ((IntKind.i64.wrap (n5 - 1)) - a42))<((256:Nat):Int) then((stC (pad4.add ((Int.toNat (IntKind.i64.wrap ((IntKind.i64.wrap (n5 - 1)) - a42)))*1)) (.int .u8 (IntKind.u8.wrap (Int.fdiv bits3 (2 ^ (min (Int.toNat (IntKind.i64.wrap (8*a42))) IntKind.u64.bits))))) w).bind fun w_14=>
 rec s1 bits3 pad4 n5 (IntKind.i64.wrap (a42+1)) w_14) else none) else none) else(some ((),w))
noncomputable def K_1s (K:Nat) (n:Nat):Addr→Int→Addr→Int→Int→World→Option ((Unit)×World):=iter (fun _ _ _ _ _ _=>none) (K_4i K) n
noncomputable def K_4z (K:Nat) (rec:Addr→Sl→Array Value→Int→World→Option ((Sl×Unit)×World)) (s1:Addr) (out7:Sl) (a61:Array Value) (a62:Int) (w:World):Option ((Sl×Unit)×World):=
 if (decide (a62<8))=true then(if (0:Int)≤a62∧a62<((8:Nat):Int) then((a61[((Int.toNat a62)*1)]?).bind fun v_22=>
 (asI .u64 v_22).bind fun v_23=>
 (ldI .i64 ((s1.add 0).add 2) w).bind fun v_24=>
 bnd (K_et K out7 v_23 v_24 w) fun r_25 w_26=>
 rec s1 r_25.1 a61 (IntKind.i64.wrap (a62+1)) w_26) else none) else(some ((out7,()),w))
noncomputable def K_1r (K:Nat) (n:Nat):Addr→Sl→Array Value→Int→World→Option ((Sl×Unit)×World):=iter (fun _ _ _ _ _=>none) (K_4z K) n
noncomputable def K_60 (K:Nat) (s0:Array Value) (w:World):Option ((Sl×Unit)×World):=
 bnd (newB s0 180 w) fun p_1 w_2=>
 (ldI .u64 (p_1.add 5) w_2).bind fun v_3=>
 bnd (newB z188 188 w_2) fun pad_4 w_5=>
 (stC (pad_4.add (0*1)) (.int .u8 128) w_5).bind fun w_6=>
 bnd (K_1q K K p_1 (IntKind.u64.wrap (v_3*8)) pad_4 1 w_6) fun y_11 w_12=>
 (ldI .i64 ((p_1.add 0).add 2) w_12).bind fun v_13=>
 bnd (K_1s K K p_1 (IntKind.u64.wrap (v_3*8)) pad_4 (IntKind.i64.wrap (y_11.1+(IntKind.i64.wrap (2*v_13)))) 0 w_12) fun y_15 w_16=>
 if (0:Int)≤(IntKind.i64.wrap (y_11.1+(IntKind.i64.wrap (2*v_13))))∧(IntKind.i64.wrap (y_11.1+(IntKind.i64.wrap (2*v_13))))≤((256:Nat):Int) then(bnd (K_3e K (some p_1) ⟨(sla (some pad_4) 0 256 1),((Int.toNat ((IntKind.i64.wrap (y_11.1+(IntKind.i64.wrap (2*v_13)))))) - 0),(256 - 0)⟩ w_16) fun r_17 w_18=>
 bnd (mkS prog 23 (.int .i64 0) (.int .i64 64) w_18) fun s_19 w_20=>
 (ldA 8 (p_1.add 6) w_20).bind fun v_21=>
 bnd (K_1r K K p_1 s_19 v_21 0 w_20) fun y_27 w_28=>
 (ldI .i64 ((p_1.add 0).add 0) w_28).bind fun v_29=>
 (ldI .i64 ((p_1.add 0).add 0) w_28).bind fun v_30=>
 if (0:Int)≤v_30∧v_30≤((y_27.1.cap:Nat):Int) then(if (0:Int)≤v_29∧v_29≤(((Int.toNat (v_30)):Nat):Int) then(some ((⟨(sla y_27.1.a 0 (Int.toNat (v_30)) 1),((Int.toNat (v_29)) - 0),((Int.toNat (v_30)) - 0)⟩,()),w_28)) else none) else none) else none
theorem K_qv(K:Nat)(n:Nat):StmtNOk prog [(1,.addr),(3,.int .u64),(4,.addr),(5,.int .i64)] [(5,.int .i64)] [(5,6),(14,36)] ((fun n x w=>K_1q K n x.1 x.2.1 x.2.2.1 x.2.2.2.1 w) n) (.block 0 (.loop (cd (bodyOf f129) [1,1,1,1,1,0,0,0]))):=
  K_4 (O:=tabL []) (root:=(bodyOf f129)) (π:=[1,1,1,1,1,0,0,0]) (Li:=[(1,.addr),(3,.int .u64),(4,.addr),(5,.int .i64)]) (Lo:=[(5,.int .i64)]) (S:=(fun n x w=>K_1q K n x.1 x.2.1 x.2.2.1 x.2.2.2.1 w)) (K_80 K) (K_7x K) rfl (Orc.nil _ _ _) (by kernel_rfl) (fun _ _=>by kernel_rfl) (fun _ _ _=>by kernel_rfl) n
noncomputable def K_g0 (K:Nat):SE:=stmtN [(1,.addr),(3,.int .u64),(4,.addr),(5,.int .i64)] [(5,.int .i64)] [(5,6),(14,36)] (fun x w=>K_1q K K x.1 x.2.1 x.2.2.1 x.2.2.2.1 w)
theorem K_my(K:Nat)(R:Rg)(h:subRB [(5,6),(14,36)] R=true):(K_g0 K).Ok prog R (.block 0 (.loop (cd (bodyOf f129) [1,1,1,1,1,0,0,0]))):=K_2 (K_qv K K) (K_0 h)
theorem K_qj(K:Nat)(n:Nat):StmtNOk prog [(1,.addr),(3,.int .u64),(4,.addr),(5,.int .i64),(42,.int .i64)] [] [(6,7),(42,56)] ((fun n x w=>K_1s K n x.1 x.2.1 x.2.2.1 x.2.2.2.1 x.2.2.2.2.1 w) n) (.block 2 (.loop (cd (bodyOf f129) [1,1,1,1,1,1,1,0,1,0,0]))):=
  K_4 (O:=tabL []) (root:=(bodyOf f129)) (π:=[1,1,1,1,1,1,1,0,1,0,0]) (Li:=[(1,.addr),(3,.int .u64),(4,.addr),(5,.int .i64),(42,.int .i64)]) (Lo:=[]) (S:=(fun n x w=>K_1s K n x.1 x.2.1 x.2.2.1 x.2.2.2.1 x.2.2.2.2.1 w)) (K_80 K) (K_7x K) rfl (Orc.nil _ _ _) (by kernel_rfl) (fun _ _=>by kernel_rfl) (fun _ _ _=>by kernel_rfl) n
noncomputable def K_g2 (K:Nat):SE:=stmtN [(1,.addr),(3,.int .u64),(4,.addr),(5,.int .i64),(42,.int .i64)] [] [(6,7),(42,56)] (fun x w=>K_1s K K x.1 x.2.1 x.2.2.1 x.2.2.2.1 x.2.2.2.2.1 w)
theorem K_mz(K:Nat)(R:Rg)(h:subRB [(6,7),(42,56)] R=true):(K_g2 K).Ok prog R (.block 2 (.loop (cd (bodyOf f129) [1,1,1,1,1,1,1,0,1,0,0]))):=K_2 (K_qj K K) (K_0 h)
theorem K_qr(K:Nat)(n:Nat):StmtNOk prog [(1,.addr),(7,.sl),(61,.agg),(62,.int .i64)] [(7,.sl)] [(7,8),(9,10),(62,72)] ((fun n x w=>K_1r K n x.1 x.2.1 x.2.2.1 x.2.2.2.1 w) n) (.block 4 (.loop (cd (bodyOf f129) [1,1,1,1,1,1,1,1,1,1,0,1,0,0]))):=
  K_4 (O:=tabL []) (root:=(bodyOf f129)) (π:=[1,1,1,1,1,1,1,1,1,1,0,1,0,0]) (Li:=[(1,.addr),(7,.sl),(61,.agg),(62,.int .i64)]) (Lo:=[(7,.sl)]) (S:=(fun n x w=>K_1r K n x.1 x.2.1 x.2.2.1 x.2.2.2.1 w)) (K_80 K) (K_7x K) rfl (Orc.nil _ _ _) (by kernel_rfl) (fun _ _=>by kernel_rfl) (fun _ _ _=>by kernel_rfl) n
noncomputable def K_g1 (K:Nat):SE:=stmtN [(1,.addr),(7,.sl),(61,.agg),(62,.int .i64)] [(7,.sl)] [(7,8),(9,10),(62,72)] (fun x w=>K_1r K K x.1 x.2.1 x.2.2.1 x.2.2.2.1 w)
theorem K_mq(K:Nat)(R:Rg)(h:subRB [(7,8),(9,10),(62,72)] R=true):(K_g1 K).Ok prog R (.block 4 (.loop (cd (bodyOf f129) [1,1,1,1,1,1,1,1,1,1,0,1,0,0]))):=K_2 (K_qr K K) (K_0 h)
theorem K_fs:FunFacts prog 129 f129 (bodyOf f129) [(0,.agg)] [(0,80)]:=⟨func129,by kernel_rfl,by kernel_rfl,by kernel_rfl,by kernel_rfl,by kernel_rfl⟩
theorem K_r1(K:Nat)(x:TT [(0,.agg)])(w:World)(y:TR [.sl])(w2:World)(h:K_60 K x.1 w=some (y,w2)):Calls prog 129 (encA [(0,.agg)] x).toArray w (fun e w3=>e= .returned (resV (encR [.sl] y))∧w3=w2):=
  K_b (O:=tabL [([1,1,1,1,1,0],K_g0 K),([1,1,1,1,1,1,1,0,1],K_g2 K),([1,1,1,1,1,1,1,1,1,1,0,1],K_g1 K)]) (Lp:=[(0,.agg)]) (Rt:=[.sl]) (S:=(fun x w=>K_60 K x.1 w)) (K_80 K) (K_7x K) rfl K_fs (Orc.cons (by kernel_rfl) (K_my K [(0,80)] (by kernel_rfl)) (Orc.cons (by kernel_rfl) (K_mz K [(0,80)] (by kernel_rfl)) (Orc.cons (by kernel_rfl) (K_mq K [(0,80)] (by kernel_rfl)) (Orc.nil _ _ _)))) (fun _ _=>by kernel_rfl) x w y w2 h
noncomputable def K_iq (K:Nat):CE:=funE [(0,.agg)] [.sl] (fun x w=>K_60 K x.1 w)
theorem K_x4(K:Nat):(K_iq K).Ok prog 129:=K_8 K_fs fun x w y w2 h=>K_r1 K x w y w2 h
noncomputable def K_wu (K:Nat):List (Nat×CE):=[(129,K_iq K)]
theorem K_tc(K:Nat):Env.Ok prog (tab (K_wu K)):=(Env.cons (K_x4 K) (Env.nil _))
noncomputable def K_wz (K:Nat):List (Nat×RE):=[]
theorem K_tb(K:Nat):REnv.Ok prog (tab (K_wz K)):=(REnv.nil _)
noncomputable def K_5h (K:Nat) (s0:Option Addr) (w:World):Option ((Sl×Unit)×World):=
 if s0.isNone=true then(some ((⟨none,0,0⟩,()),w)) else((s0).bind fun p_1=>
 (ldA 142 (p_1.add 0) w).bind fun v_2=>
 bnd (K_60 K v_2 w) fun r_3 w_4=>
 some ((r_3.1,()),w_4))
theorem K_f6:FunFacts prog 107 f107 (bodyOf f107) [(0,.ptr)] [(0,10)]:=⟨func107,by kernel_rfl,by kernel_rfl,by kernel_rfl,by kernel_rfl,by kernel_rfl⟩
theorem K_pc(K:Nat)(x:TT [(0,.ptr)])(w:World)(y:TR [.sl])(w2:World)(h:K_5h K x.1 w=some (y,w2)):Calls prog 107 (encA [(0,.ptr)] x).toArray w (fun e w3=>e= .returned (resV (encR [.sl] y))∧w3=w2):=
  K_b (O:=tabL []) (Lp:=[(0,.ptr)]) (Rt:=[.sl]) (S:=(fun x w=>K_5h K x.1 w)) (K_tc K) (K_tb K) rfl K_f6 (Orc.nil _ _ _) (fun _ _=>by kernel_rfl) x w y w2 h
noncomputable def K_hk (K:Nat):CE:=funE [(0,.ptr)] [.sl] (fun x w=>K_5h K x.1 w)
theorem K_u4(K:Nat):(K_hk K).Ok prog 107:=K_8 K_f6 fun x w y w2 h=>K_pc K x w y w2 h
noncomputable def K_1ao (K:Nat):List (Nat×CE):=[(105,K_v9 K),(106,K_fy K),(107,K_hk K)]
theorem K_sx(K:Nat):Env.Ok prog (tab (K_1ao K)):=(Env.cons (K_18t K) (Env.cons (K_qk K) (Env.cons (K_u4 K) (Env.nil _))))
noncomputable def K_1a7 (K:Nat):List (Nat×RE):=[]
theorem K_s4(K:Nat):REnv.Ok prog (tab (K_1a7 K)):=(REnv.nil _)
noncomputable def K_g7 (K:Nat) (parts1:Sl) (s6:Option Addr) (e7:Int) (a14:Bool) (w:World):Option ((Int×Unit)×World):=
 if a14=true then(bnd (K_41 K s6 parts1 w) fun r_3 w_4=>
 some ((r_3.1,()),w_4)) else(some ((e7,()),w))
noncomputable def K_cf (K:Nat) (hash0:Int) (parts1:Sl) (w:World):Option ((Sl×Int×Unit)×World):=
 bnd (K_bv K hash0 w) fun r_1 w_2=>
 bnd (K_g7 K parts1 r_1.1 r_1.2.1 (r_1.2.1 == 0) w_2) fun y_5 w_6=>
 if (y_5.1 != 0)=true then(some ((⟨none,0,0⟩,y_5.1,()),w_6)) else(bnd (K_5h K r_1.1 w_6) fun r_7 w_8=>
 some ((r_7.1,0,()),w_8))
theorem K_12v(K:Nat):StmtNOk prog [(1,.sl),(6,.ptr),(7,.int .i64),(14,.bool)] [(7,.int .i64)] [(7,8),(15,18)] (fun x w=>K_g7 K x.1 x.2.1 x.2.2.1 x.2.2.2.1 w) (cd (bodyOf f79) [1,1,0,1]):=
  K_g (O:=tabL []) (root:=(bodyOf f79)) (π:=[1,1,0,1]) (K_sx K) (K_s4 K) rfl (Orc.nil _ _ _) (by kernel_rfl) (fun _ _=>by kernel_rfl)
noncomputable def K_op (K:Nat):SE:=stmtN [(1,.sl),(6,.ptr),(7,.int .i64),(14,.bool)] [(7,.int .i64)] [(7,8),(15,18)] (fun x w=>K_g7 K x.1 x.2.1 x.2.2.1 x.2.2.2.1 w)
theorem K_wp(K:Nat)(R:Rg)(h:subRB [(7,8),(15,18)] R=true):(K_op K).Ok prog R (cd (bodyOf f79) [1,1,0,1]):=K_2 (K_12v K) (K_0 h)
theorem K_om:FunFacts prog 79 f79 (bodyOf f79) [(0,.int .i64),(1,.sl)] [(0,23)]:=⟨func79,by kernel_rfl,by kernel_rfl,by kernel_rfl,by kernel_rfl,by kernel_rfl⟩
theorem K_11w(K:Nat)(x:TT [(0,.int .i64),(1,.sl)])(w:World)(y:TR [.sl,.int .i64])(w2:World)(h:K_cf K x.1 x.2.1 w=some (y,w2)):Calls prog 79 (encA [(0,.int .i64),(1,.sl)] x).toArray w (fun e w3=>e= .returned (resV (encR [.sl,.int .i64] y))∧w3=w2):=
  K_b (O:=tabL [([1,1,0,1],K_op K)]) (Lp:=[(0,.int .i64),(1,.sl)]) (Rt:=[.sl,.int .i64]) (S:=(fun x w=>K_cf K x.1 x.2.1 w)) (K_sx K) (K_s4 K) rfl K_om (Orc.cons (by kernel_rfl) (K_wp K [(0,23)] (by kernel_rfl)) (Orc.nil _ _ _)) (fun _ _=>by kernel_rfl) x w y w2 h
noncomputable def K_v7 (K:Nat):CE:=funE [(0,.int .i64),(1,.sl)] [.sl,.int .i64] (fun x w=>K_cf K x.1 x.2.1 w)
theorem K_18p(K:Nat):(K_v7 K).Ok prog 79:=K_8 K_om fun x w y w2 h=>K_11w K x w y w2 h
noncomputable def K_ou:List (Nat×CE):=[]
theorem K_lc:Env.Ok prog (tab (K_ou)):=(Env.nil _)
noncomputable def K_ok:List (Nat×RE):=[]
theorem K_le:REnv.Ok prog (tab (K_ok)):=(REnv.nil _)
noncomputable def K_i (s0:Sl) (w:World):Option ((Sl×Unit)×World):=
 if s0.a.isNone=true then(some ((⟨none,0,0⟩,()),w)) else(bnd (bldS prog 23 0 #[] w) fun s_1 w_2=>
 bnd (apd prog 23 23 (.slice s_1.a s_1.len s_1.cap) (.slice s0.a s0.len s0.cap) w_2) fun s_3 w_4=>
 some ((s_3,()),w_4))
theorem K_bf:FunFacts prog 80 f80 (bodyOf f80) [(0,.sl)] [(0,8)]:=⟨func80,by kernel_rfl,by kernel_rfl,by kernel_rfl,by kernel_rfl,by kernel_rfl⟩
theorem K_jk(x:TT [(0,.sl)])(w:World)(y:TR [.sl])(w2:World)(h:K_i x.1 w=some (y,w2)):Calls prog 80 (encA [(0,.sl)] x).toArray w (fun e w3=>e= .returned (resV (encR [.sl] y))∧w3=w2):=
  K_b (O:=tabL []) (Lp:=[(0,.sl)]) (Rt:=[.sl]) (S:=(fun x w=>K_i x.1 w)) (K_lc) (K_le) rfl K_bf (Orc.nil _ _ _) (fun _ _=>by kernel_rfl) x w y w2 h
noncomputable def K_50:CE:=funE [(0,.sl)] [.sl] (fun x w=>K_i x.1 w)
theorem K_7w:(K_50).Ok prog 80:=K_8 K_bf fun x w y w2 h=>K_jk x w y w2 h
noncomputable def K_1aj (K:Nat):List (Nat×CE):=[(79,K_v7 K),(80,K_50)]
theorem K_177(K:Nat):Env.Ok prog (tab (K_1aj K)):=(Env.cons (K_18p K) (Env.cons (K_7w) (Env.nil _)))
noncomputable def K_1ak (K:Nat):List (Nat×RE):=[]
theorem K_16i(K:Nat):REnv.Ok prog (tab (K_1ak K)):=(REnv.nil _)
noncomputable def K_ek (K:Nat) (set0:Int) (secret1:Sl) (w:World):Option ((Sl×Unit)×World):=
 bnd (bldS prog 23 2 #[(0,(.int .u8 (IntKind.u8.wrap (Int.fdiv set0 (2 ^ 8))))),(1,(.int .u8 (IntKind.u8.wrap set0)))] w) fun s_1 w_2=>
 bnd (bldS prog 67 2 #[(0,(.slice s_1.a s_1.len s_1.cap)),(1,(.slice secret1.a secret1.len secret1.cap))] w_2) fun s_3 w_4=>
 bnd (K_cf K 256 s_3 w_4) fun r_5 w_6=>
 if (0:Int)≤4∧4≤((r_5.1.cap:Nat):Int) then(bnd (K_i secret1 w_6.drew) fun r_7 w_8=>
 bnd (apd prog 23 23 (.slice r_7.1.a r_7.1.len r_7.1.cap) (.slice (sla r_5.1.a 0 r_5.1.cap 1) (4 - 0) (r_5.1.cap - 0)) w_8) fun s_9 w_10=>
 some ((s_9,()),w_10)) else none
theorem K_ng:FunFacts prog 52 f52 (bodyOf f52) [(0,.int .u16),(1,.sl)] [(0,24)]:=⟨func52,by kernel_rfl,by kernel_rfl,by kernel_rfl,by kernel_rfl,by kernel_rfl⟩
theorem K_13j(K:Nat)(x:TT [(0,.int .u16),(1,.sl)])(w:World)(y:TR [.sl])(w2:World)(h:K_ek K x.1 x.2.1 w=some (y,w2)):Calls prog 52 (encA [(0,.int .u16),(1,.sl)] x).toArray w (fun e w3=>e= .returned (resV (encR [.sl] y))∧w3=w2):=
  K_b (O:=tabL []) (Lp:=[(0,.int .u16),(1,.sl)]) (Rt:=[.sl]) (S:=(fun x w=>K_ek K x.1 x.2.1 w)) (K_177 K) (K_16i K) rfl K_ng (Orc.nil _ _ _) (fun _ _=>by kernel_rfl) x w y w2 h
noncomputable def K_vm (K:Nat):CE:=funE [(0,.int .u16),(1,.sl)] [.sl] (fun x w=>K_ek K x.1 x.2.1 w)
theorem K_19n(K:Nat):(K_vm K).Ok prog 52:=K_8 K_ng fun x w y w2 h=>K_13j K x w y w2 h
noncomputable def K_13e (K:Nat):List (Nat×RE):=[]
theorem K_ee(K:Nat):REnv.Ok prog (tab (K_13e K)):=(REnv.nil _)
noncomputable def K_7c (K:Nat) (a0:Int) (p5:Int) (a11:Bool):Option (Out (Int×Unit) (Int×Unit)):=
 if a11=true then(some (.norm ((bits .xor .u8 p5 a0),()))) else(some (.norm (p5,())))
noncomputable def K_3z (K:Nat) (rec:Int→Int→Int→Option (Out (Int×Unit) (Int×Unit))) (a0:Int) (b1:Int) (p5:Int):Option (Out (Int×Unit) (Int×Unit)):=
 if (b1 != 0)=true then((K_7c K a0 p5 ((bits .and .u8 b1 1) != 0)).bind fun y_1=>
 (match y_1 with
 | .norm z_2n=>(if ((bits .and .u8 a0 128) != 0)=true then(rec (bits .xor .u8 (IntKind.u8.wrap (a0*2 ^ 1)) 27) (Int.fdiv b1 (2 ^ 1)) z_2n.1) else(rec (IntKind.u8.wrap (a0*2 ^ 1)) (Int.fdiv b1 (2 ^ 1)) z_2n.1))
 | .ret z_2r=>(some (.ret (z_2r.1,()))))) else(some (.norm (p5,())))
noncomputable def K_2c (K:Nat) (n:Nat):Int→Int→Int→Option (Out (Int×Unit) (Int×Unit)):=iter (fun _ _ _=>none) (K_3z K) n
noncomputable def K_l (K:Nat) (a0:Int) (b1:Int):Option (Int×Unit):=
 (K_2c K K a0 b1 0).bind fun y_3=>
 (match y_3 with
 | .norm z_4n=>(some (z_4n.1,()))
 | .ret z_4r=>(some (z_4r.1,())))
theorem K_uq(K:Nat):StmtQOk prog [(0,.int .u8),(5,.int .u8),(11,.bool)] [(5,.int .u8)] [(4,.int .u8)] [(5,6),(12,15)] (fun x w=>K_7c K x.1 x.2.1 x.2.2.1) (cd (bodyOf f61) [1,1,0,0,0,1,0,0,1]):=
  K_1az (O:=tabL []) (root:=(bodyOf f61)) (π:=[1,1,0,0,0,1,0,0,1]) (K_ee K) (OrcQ.nil _ _ _) (by kernel_rfl) (fun _ _=>by kernel_rfl)
noncomputable def K_c9 (K:Nat):SQ:=stmtQ [(0,.int .u8),(5,.int .u8),(11,.bool)] [(5,.int .u8)] [(4,.int .u8)] [(5,6),(12,15)] (fun x w=>K_7c K x.1 x.2.1 x.2.2.1)
theorem K_fb(K:Nat)(R:Rg)(h:subRB [(5,6),(12,15)] R=true):(K_c9 K).Ok prog R (cd (bodyOf f61) [1,1,0,0,0,1,0,0,1]):=K_8r (K_uq K) (K_0 h)
theorem K_uy(K:Nat)(n:Nat):StmtQOk prog [(0,.int .u8),(1,.int .u8),(5,.int .u8)] [(5,.int .u8)] [(4,.int .u8)] [(0,2),(5,25)] ((fun n x w=>K_2c K n x.1 x.2.1 x.2.2.1) n) (.block 0 (.loop (cd (bodyOf f61) [1,1,0,0,0]))):=
  K_c1 (O:=tabL [([1,1,0,0,0,1,0,0,1],K_c9 K)]) (root:=(bodyOf f61)) (π:=[1,1,0,0,0]) (Li:=[(0,.int .u8),(1,.int .u8),(5,.int .u8)]) (Lo:=[(5,.int .u8)]) (Lr:=[(4,.int .u8)]) (S:=(fun n x w=>K_2c K n x.1 x.2.1 x.2.2.1)) (K_ee K) (OrcQ.cons (by kernel_rfl) (K_fb K [(0,2),(5,25)] (by kernel_rfl)) (OrcQ.nil _ _ _)) (by kernel_rfl) (fun _ _=>by kernel_rfl) (fun _ _ _=>by kernel_rfl) n
noncomputable def K_ho (K:Nat):SQ:=stmtQ [(0,.int .u8),(1,.int .u8),(5,.int .u8)] [(5,.int .u8)] [(4,.int .u8)] [(0,2),(5,25)] (fun x w=>K_2c K K x.1 x.2.1 x.2.2.1)
theorem K_p4(K:Nat)(R:Rg)(h:subRB [(0,2),(5,25)] R=true):(K_ho K).Ok prog R (.block 0 (.loop (cd (bodyOf f61) [1,1,0,0,0]))):=K_8r (K_uy K K) (K_0 h)
theorem K_hq:FunFacts prog 61 f61 (bodyOf f61) [(0,.int .u8),(1,.int .u8)] [(0,26)]:=⟨func61,by kernel_rfl,by kernel_rfl,by kernel_rfl,by kernel_rfl,by kernel_rfl⟩
theorem K_tk(K:Nat)(x:TT [(0,.int .u8),(1,.int .u8)])(w:World)(y:TR [.int .u8])(h:K_l K x.1 x.2.1=some y):Calls prog 61 (encA [(0,.int .u8),(1,.int .u8)] x).toArray w (fun e w3=>e= .returned (resV (encR [.int .u8] y))∧w3=w):=
  K_4j (O:=tabL [([1,1,0],K_ho K),([1,1,0,0,0,1,0,0,1],K_c9 K)]) (Lp:=[(0,.int .u8),(1,.int .u8)]) (Rt:=[.int .u8]) (S:=(fun x w=>K_l K x.1 x.2.1)) (K_ee K) K_hq (OrcQ.cons (by kernel_rfl) (K_p4 K [(0,26)] (by kernel_rfl)) (OrcQ.cons (by kernel_rfl) (K_fb K [(0,26)] (by kernel_rfl)) (OrcQ.nil _ _ _))) (fun _ _=>by kernel_rfl) x w y h
noncomputable def K_2f (K:Nat):RE:=funR [(0,.int .u8),(1,.int .u8)] [.int .u8] (fun x w=>K_l K x.1 x.2.1)
theorem K_3h(K:Nat):(K_2f K).Ok prog 61:=K_4x K_hq fun x w y h=>K_tk K x w y h
noncomputable def K_160 (K:Nat):List (Nat×RE):=[(61,K_2f K)]
theorem K_or(K:Nat):REnv.Ok prog (tab (K_160 K)):=(REnv.cons (K_3h K) (REnv.nil _))
noncomputable def K_7q (K:Nat) (rec:Int→Int→Int→Option (Out (Int×Unit) (Int×Unit))) (v3:Int) (a5:Int) (a6:Int):Option (Out (Int×Unit) (Int×Unit)):=
 if (decide (a6<a5))=true then((K_l K v3 3).bind fun r_1=>
 rec r_1.1 a5 (IntKind.i64.wrap (a6+1))) else(some (.norm (v3,())))
noncomputable def K_3p (K:Nat) (n:Nat):Int→Int→Int→Option (Out (Int×Unit) (Int×Unit)):=iter (fun _ _ _=>none) (K_7q K) n
noncomputable def K_5c (K:Nat) (n0:Int):Option (Int×Unit):=
 (K_3p K K 1 (Int.tmod n0 255) 0).bind fun y_2=>
 (match y_2 with
 | .norm z_3n=>(some (z_3n.1,()))
 | .ret z_3r=>(some (z_3r.1,())))
theorem K_yo(K:Nat)(n:Nat):StmtQOk prog [(3,.int .u8),(5,.int .i64),(6,.int .i64)] [(3,.int .u8)] [(2,.int .u8)] [(3,4),(6,11)] ((fun n x w=>K_3p K n x.1 x.2.1 x.2.2.1) n) (.block 0 (.loop (cd (bodyOf f124) [1,1,0,1,0,0]))):=
  K_c1 (O:=tabL []) (root:=(bodyOf f124)) (π:=[1,1,0,1,0,0]) (Li:=[(3,.int .u8),(5,.int .i64),(6,.int .i64)]) (Lo:=[(3,.int .u8)]) (Lr:=[(2,.int .u8)]) (S:=(fun n x w=>K_3p K n x.1 x.2.1 x.2.2.1)) (K_or K) (OrcQ.nil _ _ _) (by kernel_rfl) (fun _ _=>by kernel_rfl) (fun _ _ _=>by kernel_rfl) n
noncomputable def K_k9 (K:Nat):SQ:=stmtQ [(3,.int .u8),(5,.int .i64),(6,.int .i64)] [(3,.int .u8)] [(2,.int .u8)] [(3,4),(6,11)] (fun x w=>K_3p K K x.1 x.2.1 x.2.2.1)
theorem K_t1(K:Nat)(R:Rg)(h:subRB [(3,4),(6,11)] R=true):(K_k9 K).Ok prog R (.block 0 (.loop (cd (bodyOf f124) [1,1,0,1,0,0]))):=K_8r (K_yo K K) (K_0 h)
theorem K_kp:FunFacts prog 124 f124 (bodyOf f124) [(0,.int .i64)] [(0,12)]:=⟨func124,by kernel_rfl,by kernel_rfl,by kernel_rfl,by kernel_rfl,by kernel_rfl⟩
theorem K_y6(K:Nat)(x:TT [(0,.int .i64)])(w:World)(y:TR [.int .u8])(h:K_5c K x.1=some y):Calls prog 124 (encA [(0,.int .i64)] x).toArray w (fun e w3=>e= .returned (resV (encR [.int .u8] y))∧w3=w):=
  K_4j (O:=tabL [([1,1,0,1],K_k9 K)]) (Lp:=[(0,.int .i64)]) (Rt:=[.int .u8]) (S:=(fun x w=>K_5c K x.1)) (K_or K) K_kp (OrcQ.cons (by kernel_rfl) (K_t1 K [(0,12)] (by kernel_rfl)) (OrcQ.nil _ _ _)) (fun _ _=>by kernel_rfl) x w y h
noncomputable def K_dk (K:Nat):RE:=funR [(0,.int .i64)] [.int .u8] (fun x w=>K_5c K x.1)
theorem K_hs(K:Nat):(K_dk K).Ok prog 124:=K_4x K_kp fun x w y h=>K_y6 K x w y h
noncomputable def K_170 (K:Nat):List (Nat×CE):=[(80,K_50)]
theorem K_8p(K:Nat):Env.Ok prog (tab (K_170 K)):=(Env.cons (K_7w) (Env.nil _))
noncomputable def K_171 (K:Nat):List (Nat×RE):=[(124,K_dk K),(61,K_2f K)]
theorem K_8k(K:Nat):REnv.Ok prog (tab (K_171 K)):=(REnv.cons (K_hs K) (REnv.cons (K_3h K) (REnv.nil _)))
noncomputable def K_7r (K:Nat) (rec:Sl→Int→Sl→Int→Sl→Int→Int→World→Option ((Unit)×World)) (b0:Sl) (j4:Int) (next5:Sl) (a14:Int) (a21:Sl) (a22:Int) (a23:Int) (w:World):Option ((Unit)×World):=
 if (decide (a23<a22))=true then((a21.a).bind fun p_9=>
 if (0:Int)≤a23∧a23<((a21.len:Nat):Int) then((ldI .u8 (p_9.add ((Int.toNat a23)*1)) w).bind fun v_10=>
 (next5.a).bind fun p_11=>
 if (0:Int)≤(IntKind.i64.wrap (a23+1))∧(IntKind.i64.wrap (a23+1))<((next5.len:Nat):Int) then((ldI .u8 (p_11.add ((Int.toNat (IntKind.i64.wrap (a23+1)))*1)) w.drew).bind fun v_12=>
 (K_5c K j4).bind fun r_13=>
 (K_l K v_10 r_13.1).bind fun r_14=>
 (next5.a).bind fun p_15=>
 if (0:Int)≤(IntKind.i64.wrap (a23+1))∧(IntKind.i64.wrap (a23+1))<((next5.len:Nat):Int) then((stC (p_15.add ((Int.toNat (IntKind.i64.wrap (a23+1)))*1)) (.int .u8 (bits .xor .u8 v_12 r_14.1)) w.drew).bind fun w_16=>
 rec b0 j4 next5 a14 a21 a22 (IntKind.i64.wrap (a23+1)) w_16) else none) else none) else none) else(some ((),w))
noncomputable def K_3s (K:Nat) (n:Nat):Sl→Int→Sl→Int→Sl→Int→Int→World→Option ((Unit)×World):=iter (fun _ _ _ _ _ _ _ _=>none) (K_7r K) n
noncomputable def K_7l (K:Nat) (rec:Sl→Sl→Int→World→Option ((Sl×Unit)×World)) (b0:Sl) (g3:Sl) (a14:Int) (w:World):Option ((Sl×Unit)×World):=
 if (decide (a14<4))=true then(bnd (K_i g3 w) fun r_3 w_4=>
 bnd (bldS prog 23 1 #[(0,(.int .u8 0))] w_4) fun s_5 w_6=>
 bnd (apd prog 23 23 (.slice r_3.1.a r_3.1.len r_3.1.cap) (.slice s_5.a s_5.len s_5.cap) w_6) fun s_7 w_8=>
 bnd (K_3s K K b0 a14 s_7 a14 g3 ((g3.len:Nat):Int) 0 w_8) fun y_17 w_18=>
 rec b0 s_7 (IntKind.i64.wrap (a14+1)) w_18) else(some ((g3,()),w))
noncomputable def K_1y (K:Nat) (n:Nat):Sl→Sl→Int→World→Option ((Sl×Unit)×World):=iter (fun _ _ _ _=>none) (K_7l K) n
noncomputable def K_7u (K:Nat) (rec:Sl→Sl→Sl→Int→Int→Int→Int→Sl→Int→Int→World→Option ((Unit)×World)) (b0:Sl) (g3:Sl) (rest8:Sl) (i9:Int) (c10:Int) (a46:Int) (a47:Int) (a54:Sl) (a55:Int) (a56:Int) (w:World):Option ((Unit)×World):=
 if (decide (a56<a55))=true then((a54.a).bind fun p_27=>
 if (0:Int)≤a56∧a56<((a54.len:Nat):Int) then((ldI .u8 (p_27.add ((Int.toNat a56)*1)) w).bind fun v_28=>
 (rest8.a).bind fun p_29=>
 if (0:Int)≤(IntKind.i64.wrap (i9+a56))∧(IntKind.i64.wrap (i9+a56))<((rest8.len:Nat):Int) then((ldI .u8 (p_29.add ((Int.toNat (IntKind.i64.wrap (i9+a56)))*1)) w.drew).bind fun v_30=>
 (K_l K c10 v_28).bind fun r_31=>
 (rest8.a).bind fun p_32=>
 if (0:Int)≤(IntKind.i64.wrap (i9+a56))∧(IntKind.i64.wrap (i9+a56))<((rest8.len:Nat):Int) then((stC (p_32.add ((Int.toNat (IntKind.i64.wrap (i9+a56)))*1)) (.int .u8 (bits .xor .u8 v_30 r_31.1)) w.drew).bind fun w_33=>
 rec b0 g3 rest8 i9 c10 a46 a47 a54 a55 (IntKind.i64.wrap (a56+1)) w_33) else none) else none) else none) else(some ((),w))
noncomputable def K_3l (K:Nat) (n:Nat):Sl→Sl→Sl→Int→Int→Int→Int→Sl→Int→Int→World→Option ((Unit)×World):=iter (fun _ _ _ _ _ _ _ _ _ _ _=>none) (K_7u K) n
noncomputable def K_7g (K:Nat) (rec:Sl→Sl→Sl→Int→Int→World→Option ((Unit)×World)) (b0:Sl) (g3:Sl) (rest8:Sl) (a46:Int) (a47:Int) (w:World):Option ((Unit)×World):=
 if (decide (a47<a46))=true then((rest8.a).bind fun p_25=>
 if (0:Int)≤a47∧a47<((rest8.len:Nat):Int) then((ldI .u8 (p_25.add ((Int.toNat a47)*1)) w).bind fun v_26=>
 bnd (K_3l K K b0 g3 rest8 a47 v_26 a46 a47 g3 ((g3.len:Nat):Int) 0 w) fun y_34 w_35=>
 rec b0 g3 rest8 a46 (IntKind.i64.wrap (a47+1)) w_35) else none) else(some ((),w))
noncomputable def K_3v (K:Nat) (n:Nat):Sl→Sl→Sl→Int→Int→World→Option ((Unit)×World):=iter (fun _ _ _ _ _ _=>none) (K_7g K) n
noncomputable def K_89 (K:Nat) (b0:Sl) (w:World):Option ((Sl×Unit)×World):=
 bnd (bldS prog 23 1 #[(0,(.int .u8 1))] w) fun s_1 w_2=>
 bnd (K_1y K K b0 s_1 0 w_2) fun y_19 w_20=>
 bnd (K_i b0 w_20) fun r_21 w_22=>
 bnd (apd prog 23 3 (.slice r_21.1.a r_21.1.len r_21.1.cap) (.int .i64 4) w_22) fun s_23 w_24=>
 bnd (K_3v K K b0 y_19.1 s_23 ((b0.len:Nat):Int) 0 w_24) fun y_36 w_37=>
 if (0:Int)≤((b0.len:Nat):Int)∧((b0.len:Nat):Int)≤((s_23.len:Nat):Int) then(bnd (K_i b0 w_37.drew) fun r_38 w_39=>
 bnd (apd prog 23 23 (.slice r_38.1.a r_38.1.len r_38.1.cap) (.slice (sla s_23.a (Int.toNat (((b0.len:Nat):Int))) s_23.cap 1) (s_23.len - (Int.toNat (((b0.len:Nat):Int)))) (s_23.cap - (Int.toNat (((b0.len:Nat):Int))))) w_39) fun s_40 w_41=>
 some ((s_40,()),w_41)) else none
theorem K_xh(K:Nat)(n:Nat):StmtNOk prog [(0,.sl),(4,.int .i64),(5,.sl),(14,.int .i64),(21,.sl),(22,.int .i64),(23,.int .i64)] [] [(6,8),(23,40)] ((fun n x w=>K_3s K n x.1 x.2.1 x.2.2.1 x.2.2.2.1 x.2.2.2.2.1 x.2.2.2.2.2.1 x.2.2.2.2.2.2.1 w) n) (.block 2 (.loop (cd (bodyOf f108) [1,1,0,1,0,0,1,1,0,0,1,1,0,1,0,0]))):=
  K_4 (O:=tabL []) (root:=(bodyOf f108)) (π:=[1,1,0,1,0,0,1,1,0,0,1,1,0,1,0,0]) (Li:=[(0,.sl),(4,.int .i64),(5,.sl),(14,.int .i64),(21,.sl),(22,.int .i64),(23,.int .i64)]) (Lo:=[]) (S:=(fun n x w=>K_3s K n x.1 x.2.1 x.2.2.1 x.2.2.2.1 x.2.2.2.2.1 x.2.2.2.2.2.1 x.2.2.2.2.2.2.1 w)) (K_8p K) (K_8k K) rfl (Orc.nil _ _ _) (by kernel_rfl) (fun _ _=>by kernel_rfl) (fun _ _ _=>by kernel_rfl) n
noncomputable def K_dy (K:Nat):SE:=stmtN [(0,.sl),(4,.int .i64),(5,.sl),(14,.int .i64),(21,.sl),(22,.int .i64),(23,.int .i64)] [] [(6,8),(23,40)] (fun x w=>K_3s K K x.1 x.2.1 x.2.2.1 x.2.2.2.1 x.2.2.2.2.1 x.2.2.2.2.2.1 x.2.2.2.2.2.2.1 w)
theorem K_he(K:Nat)(R:Rg)(h:subRB [(6,8),(23,40)] R=true):(K_dy K).Ok prog R (.block 2 (.loop (cd (bodyOf f108) [1,1,0,1,0,0,1,1,0,0,1,1,0,1,0,0]))):=K_2 (K_xh K K) (K_0 h)
theorem K_ye(K:Nat)(n:Nat):StmtNOk prog [(0,.sl),(3,.sl),(14,.int .i64)] [(3,.sl)] [(3,8),(14,42)] ((fun n x w=>K_1y K n x.1 x.2.1 x.2.2.1 w) n) (.block 0 (.loop (cd (bodyOf f108) [1,1,0,1,0,0]))):=
  K_4 (O:=tabL [([1,1,0,1,0,0,1,1,0,0,1,1,0,1],K_dy K)]) (root:=(bodyOf f108)) (π:=[1,1,0,1,0,0]) (Li:=[(0,.sl),(3,.sl),(14,.int .i64)]) (Lo:=[(3,.sl)]) (S:=(fun n x w=>K_1y K n x.1 x.2.1 x.2.2.1 w)) (K_8p K) (K_8k K) rfl (Orc.cons (by kernel_rfl) (K_he K [(3,8),(14,42)] (by kernel_rfl)) (Orc.nil _ _ _)) (by kernel_rfl) (fun _ _=>by kernel_rfl) (fun _ _ _=>by kernel_rfl) n
noncomputable def K_ks (K:Nat):SE:=stmtN [(0,.sl),(3,.sl),(14,.int .i64)] [(3,.sl)] [(3,8),(14,42)] (fun x w=>K_1y K K x.1 x.2.1 x.2.2.1 w)
theorem K_td(K:Nat)(R:Rg)(h:subRB [(3,8),(14,42)] R=true):(K_ks K).Ok prog R (.block 0 (.loop (cd (bodyOf f108) [1,1,0,1,0,0]))):=K_2 (K_ye K K) (K_0 h)
theorem K_xu(K:Nat)(n:Nat):StmtNOk prog [(0,.sl),(3,.sl),(8,.sl),(9,.int .i64),(10,.int .u8),(46,.int .i64),(47,.int .i64),(54,.sl),(55,.int .i64),(56,.int .i64)] [] [(11,13),(56,73)] ((fun n x w=>K_3l K n x.1 x.2.1 x.2.2.1 x.2.2.2.1 x.2.2.2.2.1 x.2.2.2.2.2.1 x.2.2.2.2.2.2.1 x.2.2.2.2.2.2.2.1 x.2.2.2.2.2.2.2.2.1 x.2.2.2.2.2.2.2.2.2.1 w) n) (.block 6 (.loop (cd (bodyOf f108) [1,1,1,1,0,1,0,0,1,1,0,0,1,1,1,0,0]))):=
  K_4 (O:=tabL []) (root:=(bodyOf f108)) (π:=[1,1,1,1,0,1,0,0,1,1,0,0,1,1,1,0,0]) (Li:=[(0,.sl),(3,.sl),(8,.sl),(9,.int .i64),(10,.int .u8),(46,.int .i64),(47,.int .i64),(54,.sl),(55,.int .i64),(56,.int .i64)]) (Lo:=[]) (S:=(fun n x w=>K_3l K n x.1 x.2.1 x.2.2.1 x.2.2.2.1 x.2.2.2.2.1 x.2.2.2.2.2.1 x.2.2.2.2.2.2.1 x.2.2.2.2.2.2.2.1 x.2.2.2.2.2.2.2.2.1 x.2.2.2.2.2.2.2.2.2.1 w)) (K_8p K) (K_8k K) rfl (Orc.nil _ _ _) (by kernel_rfl) (fun _ _=>by kernel_rfl) (fun _ _ _=>by kernel_rfl) n
noncomputable def K_do (K:Nat):SE:=stmtN [(0,.sl),(3,.sl),(8,.sl),(9,.int .i64),(10,.int .u8),(46,.int .i64),(47,.int .i64),(54,.sl),(55,.int .i64),(56,.int .i64)] [] [(11,13),(56,73)] (fun x w=>K_3l K K x.1 x.2.1 x.2.2.1 x.2.2.2.1 x.2.2.2.2.1 x.2.2.2.2.2.1 x.2.2.2.2.2.2.1 x.2.2.2.2.2.2.2.1 x.2.2.2.2.2.2.2.2.1 x.2.2.2.2.2.2.2.2.2.1 w)
theorem K_gv(K:Nat)(R:Rg)(h:subRB [(11,13),(56,73)] R=true):(K_do K).Ok prog R (.block 6 (.loop (cd (bodyOf f108) [1,1,1,1,0,1,0,0,1,1,0,0,1,1,1,0,0]))):=K_2 (K_xu K K) (K_0 h)
theorem K_xy(K:Nat)(n:Nat):StmtNOk prog [(0,.sl),(3,.sl),(8,.sl),(46,.int .i64),(47,.int .i64)] [] [(9,13),(47,74)] ((fun n x w=>K_3v K n x.1 x.2.1 x.2.2.1 x.2.2.2.1 x.2.2.2.2.1 w) n) (.block 4 (.loop (cd (bodyOf f108) [1,1,1,1,0,1,0,0]))):=
  K_4 (O:=tabL [([1,1,1,1,0,1,0,0,1,1,0,0,1,1,1],K_do K)]) (root:=(bodyOf f108)) (π:=[1,1,1,1,0,1,0,0]) (Li:=[(0,.sl),(3,.sl),(8,.sl),(46,.int .i64),(47,.int .i64)]) (Lo:=[]) (S:=(fun n x w=>K_3v K n x.1 x.2.1 x.2.2.1 x.2.2.2.1 x.2.2.2.2.1 w)) (K_8p K) (K_8k K) rfl (Orc.cons (by kernel_rfl) (K_gv K [(9,13),(47,74)] (by kernel_rfl)) (Orc.nil _ _ _)) (by kernel_rfl) (fun _ _=>by kernel_rfl) (fun _ _ _=>by kernel_rfl) n
noncomputable def K_ko (K:Nat):SE:=stmtN [(0,.sl),(3,.sl),(8,.sl),(46,.int .i64),(47,.int .i64)] [] [(9,13),(47,74)] (fun x w=>K_3v K K x.1 x.2.1 x.2.2.1 x.2.2.2.1 x.2.2.2.2.1 w)
theorem K_sr(K:Nat)(R:Rg)(h:subRB [(9,13),(47,74)] R=true):(K_ko K).Ok prog R (.block 4 (.loop (cd (bodyOf f108) [1,1,1,1,0,1,0,0]))):=K_2 (K_xy K K) (K_0 h)
theorem K_k8:FunFacts prog 108 f108 (bodyOf f108) [(0,.sl)] [(0,81)]:=⟨func108,by kernel_rfl,by kernel_rfl,by kernel_rfl,by kernel_rfl,by kernel_rfl⟩
theorem K_z1(K:Nat)(x:TT [(0,.sl)])(w:World)(y:TR [.sl])(w2:World)(h:K_89 K x.1 w=some (y,w2)):Calls prog 108 (encA [(0,.sl)] x).toArray w (fun e w3=>e= .returned (resV (encR [.sl] y))∧w3=w2):=
  K_b (O:=tabL [([1,1,0,1],K_ks K),([1,1,0,1,0,0,1,1,0,0,1,1,0,1],K_dy K),([1,1,1,1,0,1],K_ko K),([1,1,1,1,0,1,0,0,1,1,0,0,1,1,1],K_do K)]) (Lp:=[(0,.sl)]) (Rt:=[.sl]) (S:=(fun x w=>K_89 K x.1 w)) (K_8p K) (K_8k K) rfl K_k8 (Orc.cons (by kernel_rfl) (K_td K [(0,81)] (by kernel_rfl)) (Orc.cons (by kernel_rfl) (K_he K [(0,81)] (by kernel_rfl)) (Orc.cons (by kernel_rfl) (K_sr K [(0,81)] (by kernel_rfl)) (Orc.cons (by kernel_rfl) (K_gv K [(0,81)] (by kernel_rfl)) (Orc.nil _ _ _))))) (fun _ _=>by kernel_rfl) x w y w2 h
noncomputable def K_q3 (K:Nat):CE:=funE [(0,.sl)] [.sl] (fun x w=>K_89 K x.1 w)
theorem K_13v(K:Nat):(K_q3 K).Ok prog 108:=K_8 K_k8 fun x w y w2 h=>K_z1 K x w y w2 h
noncomputable def K_ul (K:Nat):List (Nat×CE):=[(108,K_q3 K)]
theorem K_qw(K:Nat):Env.Ok prog (tab (K_ul K)):=(Env.cons (K_13v K) (Env.nil _))
noncomputable def K_tv (K:Nat):List (Nat×RE):=[]
theorem K_qq(K:Nat):REnv.Ok prog (tab (K_tv K)):=(REnv.nil _)
noncomputable def K_4b (K:Nat) (s0:Array Value) (w:World):Option ((Sl×Unit)×World):=
 bnd (newB s0 102 w) fun p_1 w_2=>
 (ldI .u16 ((p_1.add 0).add 0) w_2).bind fun v_3=>
 (ldI .u16 ((p_1.add 0).add 0) w_2).bind fun v_4=>
 (ldI .i64 ((p_1.add 0).add 1) w_2).bind fun v_5=>
 (ldI .i64 ((p_1.add 0).add 2) w_2).bind fun v_6=>
 (ldI .i64 ((p_1.add 0).add 3) w_2).bind fun v_7=>
 bnd (bldS prog 23 5 #[(0,(.int .u8 (IntKind.u8.wrap (Int.fdiv v_3 (2 ^ 8))))),(1,(.int .u8 (IntKind.u8.wrap v_4))),(2,(.int .u8 (IntKind.u8.wrap v_5))),(3,(.int .u8 (IntKind.u8.wrap v_6))),(4,(.int .u8 (IntKind.u8.wrap v_7)))] w_2) fun s_8 w_9=>
 (ldS (p_1.add 4) w_9).bind fun v_10=>
 bnd (apd prog 23 23 (.slice s_8.a s_8.len s_8.cap) (.slice v_10.a v_10.len v_10.cap) w_9) fun s_11 w_12=>
 if ((Int.tmod ((s_11.len:Nat):Int) 2) == 1)=true then(bnd (bldS prog 23 1 #[(0,(.int .u8 0))] w_12) fun s_13 w_14=>
 bnd (apd prog 23 23 (.slice s_11.a s_11.len s_11.cap) (.slice s_13.a s_13.len s_13.cap) w_14) fun s_15 w_16=>
 bnd (K_89 K s_15 w_16) fun r_17 w_18=>
 some ((r_17.1,()),w_18)) else(bnd (K_89 K s_11 w_12) fun r_19 w_20=>
 some ((r_19.1,()),w_20))
theorem K_dp:FunFacts prog 82 f82 (bodyOf f82) [(0,.agg)] [(0,38)]:=⟨func82,by kernel_rfl,by kernel_rfl,by kernel_rfl,by kernel_rfl,by kernel_rfl⟩
theorem K_ow(K:Nat)(x:TT [(0,.agg)])(w:World)(y:TR [.sl])(w2:World)(h:K_4b K x.1 w=some (y,w2)):Calls prog 82 (encA [(0,.agg)] x).toArray w (fun e w3=>e= .returned (resV (encR [.sl] y))∧w3=w2):=
  K_b (O:=tabL []) (Lp:=[(0,.agg)]) (Rt:=[.sl]) (S:=(fun x w=>K_4b K x.1 w)) (K_qw K) (K_qq K) rfl K_dp (Orc.nil _ _ _) (fun _ _=>by kernel_rfl) x w y w2 h
noncomputable def K_gr (K:Nat):CE:=funE [(0,.agg)] [.sl] (fun x w=>K_4b K x.1 w)
theorem K_t5(K:Nat):(K_gr K).Ok prog 82:=K_8 K_dp fun x w y w2 h=>K_ow K x w y w2 h
end Go.Sh

namespace Go.Sh
open Go.Fw Go.Proofs.Tryd
noncomputable def K_15y (K:Nat):List (Nat×CE):=[]
theorem K_g9(K:Nat):Env.Ok prog (tab (K_15y K)):=(Env.nil _)
noncomputable def K_15w (K:Nat):List (Nat×RE):=[]
theorem K_gc(K:Nat):REnv.Ok prog (tab (K_15w K)):=(REnv.nil _)
noncomputable def K_6t (K:Nat) (out3:Sl) (a14:Bool) (w:World):Option ((Sl×Unit)×World):=
 if a14=true then(bnd (bldS prog 23 1 #[(0,(.int .u8 32))] w) fun s_1 w_2=>
 bnd (apd prog 23 23 (.slice out3.a out3.len out3.cap) (.slice s_1.a s_1.len s_1.cap) w_2) fun s_3 w_4=>
 some ((s_3,()),w_4)) else(some ((out3,()),w))
noncomputable def K_7h (K:Nat) (rec:Sl→Sl→Int→World→Option ((Sl×Unit)×World)) (b0:Sl) (out3:Sl) (i4:Int) (w:World):Option ((Sl×Unit)×World):=
 if (decide ((IntKind.i64.wrap (i4+1))<((b0.len:Nat):Int)))=true then(bnd (K_6t K out3 (decide (i4 > 0)) w) fun y_5 w_6=>
 (b0.a).bind fun p_7=>
 if (0:Int)≤i4∧i4<((b0.len:Nat):Int) then((b0.a).bind fun p_8=>
 if (0:Int)≤(IntKind.i64.wrap (i4+1))∧(IntKind.i64.wrap (i4+1))<((b0.len:Nat):Int) then((ldI .u8 (p_7.add ((Int.toNat i4)*1)) w_6.drew).bind fun v_9=>
 (ldI .u8 (p_8.add ((Int.toNat (IntKind.i64.wrap (i4+1)))*1)) w_6.drew).bind fun v_10=>
 if (0:Int)≤(Int.fdiv (bits .or .i64 (IntKind.i64.wrap ((IntKind.i64.wrap v_9)*2 ^ 8)) (IntKind.i64.wrap v_10)) (2 ^ 12)) then((str1[(Int.toNat (Int.fdiv (bits .or .i64 (IntKind.i64.wrap ((IntKind.i64.wrap v_9)*2 ^ 8)) (IntKind.i64.wrap v_10)) (2 ^ 12)))]?).bind fun b_11=>
 if (0:Int)≤(bits .and .i64 (Int.fdiv (bits .or .i64 (IntKind.i64.wrap ((IntKind.i64.wrap v_9)*2 ^ 8)) (IntKind.i64.wrap v_10)) (2 ^ 10)) 3) then((str2[(Int.toNat (bits .and .i64 (Int.fdiv (bits .or .i64 (IntKind.i64.wrap ((IntKind.i64.wrap v_9)*2 ^ 8)) (IntKind.i64.wrap v_10)) (2 ^ 10)) 3))]?).bind fun b_12=>
 if (0:Int)≤(bits .and .i64 (Int.fdiv (bits .or .i64 (IntKind.i64.wrap ((IntKind.i64.wrap v_9)*2 ^ 8)) (IntKind.i64.wrap v_10)) (2 ^ 6)) 15) then((str1[(Int.toNat (bits .and .i64 (Int.fdiv (bits .or .i64 (IntKind.i64.wrap ((IntKind.i64.wrap v_9)*2 ^ 8)) (IntKind.i64.wrap v_10)) (2 ^ 6)) 15))]?).bind fun b_13=>
 if (0:Int)≤(bits .and .i64 (Int.fdiv (bits .or .i64 (IntKind.i64.wrap ((IntKind.i64.wrap v_9)*2 ^ 8)) (IntKind.i64.wrap v_10)) (2 ^ 4)) 3) then((str2[(Int.toNat (bits .and .i64 (Int.fdiv (bits .or .i64 (IntKind.i64.wrap ((IntKind.i64.wrap v_9)*2 ^ 8)) (IntKind.i64.wrap v_10)) (2 ^ 4)) 3))]?).bind fun b_14=>
 if (0:Int)≤(bits .and .i64 (bits .or .i64 (IntKind.i64.wrap ((IntKind.i64.wrap v_9)*2 ^ 8)) (IntKind.i64.wrap v_10)) 15) then((str1[(Int.toNat (bits .and .i64 (bits .or .i64 (IntKind.i64.wrap ((IntKind.i64.wrap v_9)*2 ^ 8)) (IntKind.i64.wrap v_10)) 15))]?).bind fun b_15=>
 bnd (bldS prog 23 5 #[(0,(.int .u8 ((b_11.toNat:Nat):Int))),(1,(.int .u8 ((b_12.toNat:Nat):Int))),(2,(.int .u8 ((b_13.toNat:Nat):Int))),(3,(.int .u8 ((b_14.toNat:Nat):Int))),(4,(.int .u8 ((b_15.toNat:Nat):Int)))] w_6.drew.drew) fun s_16 w_17=>
 bnd (apd prog 23 23 (.slice y_5.1.a y_5.1.len y_5.1.cap) (.slice s_16.a s_16.len s_16.cap) w_17) fun s_18 w_19=>
 rec b0 s_18 (IntKind.i64.wrap (i4+2)) w_19) else none) else none) else none) else none) else none) else none) else none) else(some ((out3,()),w))
noncomputable def K_3u (K:Nat) (n:Nat):Sl→Sl→Int→World→Option ((Sl×Unit)×World):=iter (fun _ _ _ _=>none) (K_7h K) n
noncomputable def K_bc (K:Nat) (b0:Sl) (w:World):Option ((ByteArray×Unit)×World):=
 bnd (K_3u K K b0 ⟨none,0,0⟩ 0 w) fun y_20 w_21=>
 (b2sQ prog y_20.1.a y_20.1.len y_20.1.cap w_21).bind fun c_22=>
 some ((c_22,()),w_21)
theorem K_y7(K:Nat):StmtNOk prog [(3,.sl),(14,.bool)] [(3,.sl)] [(3,4),(15,18)] (fun x w=>K_6t K x.1 x.2.1 w) (cd (bodyOf f59) [1,1,0,1,0,0,1,0,0,0,1]):=
  K_g (O:=tabL []) (root:=(bodyOf f59)) (π:=[1,1,0,1,0,0,1,0,0,0,1]) (K_g9 K) (K_gc K) rfl (Orc.nil _ _ _) (by kernel_rfl) (fun _ _=>by kernel_rfl)
noncomputable def K_dx (K:Nat):SE:=stmtN [(3,.sl),(14,.bool)] [(3,.sl)] [(3,4),(15,18)] (fun x w=>K_6t K x.1 x.2.1 w)
theorem K_gu(K:Nat)(R:Rg)(h:subRB [(3,4),(15,18)] R=true):(K_dx K).Ok prog R (cd (bodyOf f59) [1,1,0,1,0,0,1,0,0,0,1]):=K_2 (K_y7 K) (K_0 h)
theorem K_xp(K:Nat)(n:Nat):StmtNOk prog [(0,.sl),(3,.sl),(4,.int .i64)] [(3,.sl)] [(3,52)] ((fun n x w=>K_3u K n x.1 x.2.1 x.2.2.1 w) n) (.block 0 (.loop (cd (bodyOf f59) [1,1,0,1,0,0]))):=
  K_4 (O:=tabL [([1,1,0,1,0,0,1,0,0,0,1],K_dx K)]) (root:=(bodyOf f59)) (π:=[1,1,0,1,0,0]) (Li:=[(0,.sl),(3,.sl),(4,.int .i64)]) (Lo:=[(3,.sl)]) (S:=(fun n x w=>K_3u K n x.1 x.2.1 x.2.2.1 w)) (K_g9 K) (K_gc K) rfl (Orc.cons (by kernel_rfl) (K_gu K [(3,52)] (by kernel_rfl)) (Orc.nil _ _ _)) (by kernel_rfl) (fun _ _=>by kernel_rfl) (fun _ _ _=>by kernel_rfl) n
noncomputable def K_kb (K:Nat):SE:=stmtN [(0,.sl),(3,.sl),(4,.int .i64)] [(3,.sl)] [(3,52)] (fun x w=>K_3u K K x.1 x.2.1 x.2.2.1 w)
theorem K_s7(K:Nat)(R:Rg)(h:subRB [(3,52)] R=true):(K_kb K).Ok prog R (.block 0 (.loop (cd (bodyOf f59) [1,1,0,1,0,0]))):=K_2 (K_xp K K) (K_0 h)
theorem K_kq:FunFacts prog 59 f59 (bodyOf f59) [(0,.sl)] [(0,54)]:=⟨func59,by kernel_rfl,by kernel_rfl,by kernel_rfl,by kernel_rfl,by kernel_rfl⟩
theorem K_y1(K:Nat)(x:TT [(0,.sl)])(w:World)(y:TR [.str])(w2:World)(h:K_bc K x.1 w=some (y,w2)):Calls prog 59 (encA [(0,.sl)] x).toArray w (fun e w3=>e= .returned (resV (encR [.str] y))∧w3=w2):=
  K_b (O:=tabL [([1,1,0,1],K_kb K),([1,1,0,1,0,0,1,0,0,0,1],K_dx K)]) (Lp:=[(0,.sl)]) (Rt:=[.str]) (S:=(fun x w=>K_bc K x.1 w)) (K_g9 K) (K_gc K) rfl K_kq (Orc.cons (by kernel_rfl) (K_s7 K [(0,54)] (by kernel_rfl)) (Orc.cons (by kernel_rfl) (K_gu K [(0,54)] (by kernel_rfl)) (Orc.nil _ _ _))) (fun _ _=>by kernel_rfl) x w y w2 h
noncomputable def K_qa (K:Nat):CE:=funE [(0,.sl)] [.str] (fun x w=>K_bc K x.1 w)
theorem K_146(K:Nat):(K_qa K).Ok prog 59:=K_8 K_kq fun x w y w2 h=>K_y1 K x w y w2 h
noncomputable def K_vy (K:Nat):List (Nat×CE):=[(82,K_gr K),(59,K_qa K)]
theorem K_rl(K:Nat):Env.Ok prog (tab (K_vy K)):=(Env.cons (K_t5 K) (Env.cons (K_146 K) (Env.nil _)))
noncomputable def K_vz (K:Nat):List (Nat×RE):=[]
theorem K_s6(K:Nat):REnv.Ok prog (tab (K_vz K)):=(REnv.nil _)
noncomputable def K_5g (K:Nat) (s0:Array Value) (w:World):Option ((ByteArray×Unit)×World):=
 bnd (newB s0 102 w) fun p_1 w_2=>
 (ldA 5 p_1 w_2).bind fun v_3=>
 bnd (K_4b K v_3 w_2) fun r_4 w_5=>
 bnd (K_bc K r_4.1 w_5) fun r_6 w_7=>
 some ((r_6.1,()),w_7)
theorem K_f2:FunFacts prog 55 f55 (bodyOf f55) [(0,.agg)] [(0,6)]:=⟨func55,by kernel_rfl,by kernel_rfl,by kernel_rfl,by kernel_rfl,by kernel_rfl⟩
theorem K_pi(K:Nat)(x:TT [(0,.agg)])(w:World)(y:TR [.str])(w2:World)(h:K_5g K x.1 w=some (y,w2)):Calls prog 55 (encA [(0,.agg)] x).toArray w (fun e w3=>e= .returned (resV (encR [.str] y))∧w3=w2):=
  K_b (O:=tabL []) (Lp:=[(0,.agg)]) (Rt:=[.str]) (S:=(fun x w=>K_5g K x.1 w)) (K_rl K) (K_s6 K) rfl K_f2 (Orc.nil _ _ _) (fun _ _=>by kernel_rfl) x w y w2 h
noncomputable def K_i7 (K:Nat):CE:=funE [(0,.agg)] [.str] (fun x w=>K_5g K x.1 w)
theorem K_tw(K:Nat):(K_i7 K).Ok prog 55:=K_8 K_f2 fun x w y w2 h=>K_pi K x w y w2 h
noncomputable def K_1ct:List (Nat×RE):=[]
theorem K_19m:REnv.Ok prog (tab (K_1ct)):=(REnv.nil _)
noncomputable def K_dz (e0:Int):Option (Int×Unit):=
 some (e0,())
theorem K_qg:FunFacts prog 19 f19 (bodyOf f19) [(0,.int .i64)] [(0,4)]:=⟨func19,by kernel_rfl,by kernel_rfl,by kernel_rfl,by kernel_rfl,by kernel_rfl⟩
theorem K_14x(x:TT [(0,.int .i64)])(w:World)(y:TR [.int .i64])(h:K_dz x.1=some y):Calls prog 19 (encA [(0,.int .i64)] x).toArray w (fun e w3=>e= .returned (resV (encR [.int .i64] y))∧w3=w):=
  K_4j (O:=tabL []) (Lp:=[(0,.int .i64)]) (Rt:=[.int .i64]) (S:=(fun x w=>K_dz x.1)) (K_19m) K_qg (OrcQ.nil _ _ _) (fun _ _=>by kernel_rfl) x w y h
noncomputable def K_xq:RE:=funR [(0,.int .i64)] [.int .i64] (fun x w=>K_dz x.1)
theorem K_19u:(K_xq).Ok prog 19:=K_4x K_qg fun x w y h=>K_14x x w y h
noncomputable def K_12z (K:Nat):List (Nat×CE):=[]
theorem K_l3(K:Nat):Env.Ok prog (tab (K_12z K)):=(Env.nil _)
noncomputable def K_131 (K:Nat):List (Nat×RE):=[]
theorem K_la(K:Nat):REnv.Ok prog (tab (K_131 K)):=(REnv.nil _)
noncomputable def K_5r (K:Nat) (rec:Sl→Sl→Int→World→Option ((Out (Unit) (Bool×Unit))×World)) (a0:Sl) (b1:Sl) (i5:Int) (w:World):Option ((Out (Unit) (Bool×Unit))×World):=
 if (decide (i5<((a0.len:Nat):Int)))=true then((a0.a).bind fun p_1=>
 if (0:Int)≤i5∧i5<((a0.len:Nat):Int) then((b1.a).bind fun p_2=>
 if (0:Int)≤i5∧i5<((b1.len:Nat):Int) then((ldStr (p_1.add ((Int.toNat i5)*1)) w.drew).bind fun v_3=>
 (ldStr (p_2.add ((Int.toNat i5)*1)) w.drew).bind fun v_4=>
 if (!(v_3.toList == v_4.toList))=true then(some (.ret (false,()),w.drew)) else(rec a0 b1 (IntKind.i64.wrap (i5+1)) w.drew)) else none) else none) else(some (.norm (),w))
noncomputable def K_2i (K:Nat) (n:Nat):Sl→Sl→Int→World→Option ((Out (Unit) (Bool×Unit))×World):=iter (fun _ _ _ _=>none) (K_5r K) n
noncomputable def K_85 (K:Nat) (a0:Sl) (b1:Sl) (w:World):Option ((Bool×Unit)×World):=
 if (((a0.len:Nat):Int) != ((b1.len:Nat):Int))=true then(some ((false,()),w)) else(bnd (K_2i K K a0 b1 0 w) fun y_5 w_6=>
 (match y_5 with
 | .norm z_7n=>(some ((true,()),w_6))
 | .ret z_7r=>(some ((z_7r.1,()),w_6))))
theorem K_tu(K:Nat)(n:Nat):StmtOk prog [(0,.sl),(1,.sl),(5,.int .i64)] [] [(4,.bool)] [(4,6),(11,26)] ((fun n x w=>K_2i K n x.1 x.2.1 x.2.2.1 w) n) (.block 0 (.loop (cd (bodyOf f20) [1,1,0,1,0,0]))):=
  K_26 (O:=tabL []) (root:=(bodyOf f20)) (π:=[1,1,0,1,0,0]) (Li:=[(0,.sl),(1,.sl),(5,.int .i64)]) (Lo:=[]) (Lr:=[(4,.bool)]) (S:=(fun n x w=>K_2i K n x.1 x.2.1 x.2.2.1 w)) (K_l3 K) (K_la K) rfl (Orc.nil _ _ _) (by kernel_rfl) (fun _ _=>by kernel_rfl) (fun _ _ _=>by kernel_rfl) n
noncomputable def K_hz (K:Nat):SE:=stmt [(0,.sl),(1,.sl),(5,.int .i64)] [] [(4,.bool)] [(4,6),(11,26)] (fun x w=>K_2i K K x.1 x.2.1 x.2.2.1 w)
theorem K_pa(K:Nat)(R:Rg)(h:subRB [(4,6),(11,26)] R=true):(K_hz K).Ok prog R (.block 0 (.loop (cd (bodyOf f20) [1,1,0,1,0,0]))):=K_1o (K_tu K K) (K_0 h)
theorem K_i1:FunFacts prog 20 f20 (bodyOf f20) [(0,.sl),(1,.sl)] [(0,26)]:=⟨func20,by kernel_rfl,by kernel_rfl,by kernel_rfl,by kernel_rfl,by kernel_rfl⟩
theorem K_ts(K:Nat)(x:TT [(0,.sl),(1,.sl)])(w:World)(y:TR [.bool])(w2:World)(h:K_85 K x.1 x.2.1 w=some (y,w2)):Calls prog 20 (encA [(0,.sl),(1,.sl)] x).toArray w (fun e w3=>e= .returned (resV (encR [.bool] y))∧w3=w2):=
  K_b (O:=tabL [([1,1,0,1],K_hz K)]) (Lp:=[(0,.sl),(1,.sl)]) (Rt:=[.bool]) (S:=(fun x w=>K_85 K x.1 x.2.1 w)) (K_l3 K) (K_la K) rfl K_i1 (Orc.cons (by kernel_rfl) (K_pa K [(0,26)] (by kernel_rfl)) (Orc.nil _ _ _)) (fun _ _=>by kernel_rfl) x w y w2 h
noncomputable def K_m8 (K:Nat):CE:=funE [(0,.sl),(1,.sl)] [.bool] (fun x w=>K_85 K x.1 x.2.1 w)
theorem K_10u(K:Nat):(K_m8 K).Ok prog 20:=K_8 K_i1 fun x w y w2 h=>K_ts K x w y w2 h
noncomputable def K_12l (K:Nat):List (Nat×CE):=[]
theorem K_kc(K:Nat):Env.Ok prog (tab (K_12l K)):=(Env.nil _)
noncomputable def K_13k (K:Nat):List (Nat×RE):=[]
theorem K_l4(K:Nat):REnv.Ok prog (tab (K_13k K)):=(REnv.nil _)
noncomputable def K_42 (K:Nat) (rec:Sl→Sl→Int→World→Option ((Out (Unit) (Bool×Unit))×World)) (a0:Sl) (b1:Sl) (i5:Int) (w:World):Option ((Out (Unit) (Bool×Unit))×World):=
 if (decide (i5<((a0.len:Nat):Int)))=true then((a0.a).bind fun p_1=>
 if (0:Int)≤i5∧i5<((a0.len:Nat):Int) then((b1.a).bind fun p_2=>
 if (0:Int)≤i5∧i5<((b1.len:Nat):Int) then((ldI .u8 (p_1.add ((Int.toNat i5)*1)) w.drew).bind fun v_3=>
 (ldI .u8 (p_2.add ((Int.toNat i5)*1)) w.drew).bind fun v_4=>
 if (v_3 != v_4)=true then(some (.ret (false,()),w.drew)) else(rec a0 b1 (IntKind.i64.wrap (i5+1)) w.drew)) else none) else none) else(some (.norm (),w))
noncomputable def K_2e (K:Nat) (n:Nat):Sl→Sl→Int→World→Option ((Out (Unit) (Bool×Unit))×World):=iter (fun _ _ _ _=>none) (K_42 K) n
noncomputable def K_3b (K:Nat) (a0:Sl) (b1:Sl) (w:World):Option ((Bool×Unit)×World):=
 if (((a0.len:Nat):Int) != ((b1.len:Nat):Int))=true then(some ((false,()),w)) else(bnd (K_2e K K a0 b1 0 w) fun y_5 w_6=>
 (match y_5 with
 | .norm z_7n=>(some ((true,()),w_6))
 | .ret z_7r=>(some ((z_7r.1,()),w_6))))
theorem K_ux(K:Nat)(n:Nat):StmtOk prog [(0,.sl),(1,.sl),(5,.int .i64)] [] [(4,.bool)] [(4,6),(11,26)] ((fun n x w=>K_2e K n x.1 x.2.1 x.2.2.1 w) n) (.block 0 (.loop (cd (bodyOf f30) [1,1,0,1,0,0]))):=
  K_26 (O:=tabL []) (root:=(bodyOf f30)) (π:=[1,1,0,1,0,0]) (Li:=[(0,.sl),(1,.sl),(5,.int .i64)]) (Lo:=[]) (Lr:=[(4,.bool)]) (S:=(fun n x w=>K_2e K n x.1 x.2.1 x.2.2.1 w)) (K_kc K) (K_l4 K) rfl (Orc.nil _ _ _) (by kernel_rfl) (fun _ _=>by kernel_rfl) (fun _ _ _=>by kernel_rfl) n
noncomputable def K_hm (K:Nat):SE:=stmt [(0,.sl),(1,.sl),(5,.int .i64)] [] [(4,.bool)] [(4,6),(11,26)] (fun x w=>K_2e K K x.1 x.2.1 x.2.2.1 w)
theorem K_p5(K:Nat)(R:Rg)(h:subRB [(4,6),(11,26)] R=true):(K_hm K).Ok prog R (.block 0 (.loop (cd (bodyOf f30) [1,1,0,1,0,0]))):=K_1o (K_ux K K) (K_0 h)
theorem K_ie:FunFacts prog 30 f30 (bodyOf f30) [(0,.sl),(1,.sl)] [(0,26)]:=⟨func30,by kernel_rfl,by kernel_rfl,by kernel_rfl,by kernel_rfl,by kernel_rfl⟩
theorem K_tp(K:Nat)(x:TT [(0,.sl),(1,.sl)])(w:World)(y:TR [.bool])(w2:World)(h:K_3b K x.1 x.2.1 w=some (y,w2)):Calls prog 30 (encA [(0,.sl),(1,.sl)] x).toArray w (fun e w3=>e= .returned (resV (encR [.bool] y))∧w3=w2):=
  K_b (O:=tabL [([1,1,0,1],K_hm K)]) (Lp:=[(0,.sl),(1,.sl)]) (Rt:=[.bool]) (S:=(fun x w=>K_3b K x.1 x.2.1 w)) (K_kc K) (K_l4 K) rfl K_ie (Orc.cons (by kernel_rfl) (K_p5 K [(0,26)] (by kernel_rfl)) (Orc.nil _ _ _)) (fun _ _=>by kernel_rfl) x w y w2 h
noncomputable def K_ln (K:Nat):CE:=funE [(0,.sl),(1,.sl)] [.bool] (fun x w=>K_3b K x.1 x.2.1 w)
theorem K_zp(K:Nat):(K_ln K).Ok prog 30:=K_8 K_ie fun x w y w2 h=>K_tp K x w y w2 h
noncomputable def K_zu (K:Nat):List (Nat×CE):=[]
theorem K_d5(K:Nat):Env.Ok prog (tab (K_zu K)):=(Env.nil _)
noncomputable def K_10p (K:Nat):List (Nat×RE):=[]
theorem K_da(K:Nat):REnv.Ok prog (tab (K_10p K)):=(REnv.nil _)
noncomputable def K_53 (K:Nat) (rec:Sl→Int→World→Option ((Unit)×World)) (l0:Sl) (i2:Int) (w:World):Option ((Unit)×World):=
 if (decide (i2<((l0.len:Nat):Int)))=true then((l0.a).bind fun p_1=>
 if (0:Int)≤i2∧i2<((l0.len:Nat):Int) then((ldI .u8 (p_1.add ((Int.toNat i2)*1)) w).bind fun v_2=>
 (l0.a).bind fun p_3=>
 if (0:Int)≤i2∧i2<((l0.len:Nat):Int) then((stC (p_3.add ((Int.toNat i2)*1)) (.int .u8 (bits .xor .u8 v_2 165)) w).bind fun w_4=>
 rec l0 (IntKind.i64.wrap (i2+1)) w_4) else none) else none) else(some ((),w))
noncomputable def K_23 (K:Nat) (n:Nat):Sl→Int→World→Option ((Unit)×World):=iter (fun _ _ _=>none) (K_53 K) n
noncomputable def K_56 (K:Nat) (rec:Sl→Int→World→Option ((Sl×Unit)×World)) (l0:Sl) (i3:Int) (w:World):Option ((Sl×Unit)×World):=
 if (decide (i3<70))=true then(bnd (bldS prog 23 1 #[(0,(.int .u8 (IntKind.u8.wrap (IntKind.i64.wrap ((IntKind.i64.wrap (7*i3))+3)))))] w) fun s_11 w_12=>
 bnd (apd prog 23 23 (.slice l0.a l0.len l0.cap) (.slice s_11.a s_11.len s_11.cap) w_12) fun s_13 w_14=>
 rec s_13 (IntKind.i64.wrap (i3+1)) w_14) else(some ((l0,()),w))
noncomputable def K_25 (K:Nat) (n:Nat):Sl→Int→World→Option ((Sl×Unit)×World):=iter (fun _ _ _=>none) (K_56 K) n
noncomputable def K_6w (K:Nat) (l0:Sl) (w:World):Option ((Unit)×World):=
 bnd (K_23 K K l0 0 w) fun y_5 w_6=>
 bnd (bldS prog 23 1 #[(0,(.int .u8 1))] w_6) fun s_7 w_8=>
 bnd (apd prog 23 23 (.slice l0.a l0.len l0.cap) (.slice s_7.a s_7.len s_7.cap) w_8) fun s_9 w_10=>
 bnd (K_25 K K s_9 0 w_10) fun y_15 w_16=>
 (y_15.1.a).bind fun p_17=>
 if (0:Int)≤(IntKind.i64.wrap (((y_15.1.len:Nat):Int) - 1))∧(IntKind.i64.wrap (((y_15.1.len:Nat):Int) - 1))<((y_15.1.len:Nat):Int) then((stC (p_17.add ((Int.toNat (IntKind.i64.wrap (((y_15.1.len:Nat):Int) - 1)))*1)) (.int .u8 77) w_16).bind fun w_18=>
 some ((),w_18)) else none
theorem K_sl(K:Nat)(n:Nat):StmtNOk prog [(0,.sl),(2,.int .i64)] [] [(2,3),(4,18)] ((fun n x w=>K_23 K n x.1 x.2.1 w) n) (.block 0 (.loop (cd (bodyOf f23) [0,1,0,0]))):=
  K_4 (O:=tabL []) (root:=(bodyOf f23)) (π:=[0,1,0,0]) (Li:=[(0,.sl),(2,.int .i64)]) (Lo:=[]) (S:=(fun n x w=>K_23 K n x.1 x.2.1 w)) (K_d5 K) (K_da K) rfl (Orc.nil _ _ _) (by kernel_rfl) (fun _ _=>by kernel_rfl) (fun _ _ _=>by kernel_rfl) n
noncomputable def K_hc (K:Nat):SE:=stmtN [(0,.sl),(2,.int .i64)] [] [(2,3),(4,18)] (fun x w=>K_23 K K x.1 x.2.1 w)
theorem K_nb(K:Nat)(R:Rg)(h:subRB [(2,3),(4,18)] R=true):(K_hc K).Ok prog R (.block 0 (.loop (cd (bodyOf f23) [0,1,0,0]))):=K_2 (K_sl K K) (K_0 h)
theorem K_rh(K:Nat)(n:Nat):StmtNOk prog [(0,.sl),(3,.int .i64)] [(0,.sl)] [(0,1),(3,4),(21,32)] ((fun n x w=>K_25 K n x.1 x.2.1 w) n) (.block 2 (.loop (cd (bodyOf f23) [1,1,0,1,0,0]))):=
  K_4 (O:=tabL []) (root:=(bodyOf f23)) (π:=[1,1,0,1,0,0]) (Li:=[(0,.sl),(3,.int .i64)]) (Lo:=[(0,.sl)]) (S:=(fun n x w=>K_25 K n x.1 x.2.1 w)) (K_d5 K) (K_da K) rfl (Orc.nil _ _ _) (by kernel_rfl) (fun _ _=>by kernel_rfl) (fun _ _ _=>by kernel_rfl) n
noncomputable def K_gx (K:Nat):SE:=stmtN [(0,.sl),(3,.int .i64)] [(0,.sl)] [(0,1),(3,4),(21,32)] (fun x w=>K_25 K K x.1 x.2.1 w)
theorem K_o5(K:Nat)(R:Rg)(h:subRB [(0,1),(3,4),(21,32)] R=true):(K_gx K).Ok prog R (.block 2 (.loop (cd (bodyOf f23) [1,1,0,1,0,0]))):=K_2 (K_rh K K) (K_0 h)
theorem K_gp:FunFacts prog 23 f23 (bodyOf f23) [(0,.sl)] [(0,37)]:=⟨func23,by kernel_rfl,by kernel_rfl,by kernel_rfl,by kernel_rfl,by kernel_rfl⟩
theorem K_s0(K:Nat)(x:TT [(0,.sl)])(w:World)(y:TR [])(w2:World)(h:K_6w K x.1 w=some (y,w2)):Calls prog 23 (encA [(0,.sl)] x).toArray w (fun e w3=>e= .returned (resV (encR [] y))∧w3=w2):=
  K_b (O:=tabL [([0,1],K_hc K),([1,1,0,1],K_gx K)]) (Lp:=[(0,.sl)]) (Rt:=[]) (S:=(fun x w=>K_6w K x.1 w)) (K_d5 K) (K_da K) rfl K_gp (Orc.cons (by kernel_rfl) (K_nb K [(0,37)] (by kernel_rfl)) (Orc.cons (by kernel_rfl) (K_o5 K [(0,37)] (by kernel_rfl)) (Orc.nil _ _ _))) (fun _ _=>by kernel_rfl) x w y w2 h
noncomputable def K_kf (K:Nat):CE:=funE [(0,.sl)] [] (fun x w=>K_6w K x.1 w)
theorem K_xl(K:Nat):(K_kf K).Ok prog 23:=K_8 K_gp fun x w y w2 h=>K_s0 K x w y w2 h
noncomputable def K_1b4:List (Nat×RE):=[]
theorem K_16y:REnv.Ok prog (tab (K_1b4)):=(REnv.nil _)
noncomputable def K_bt (l0:Sl) (most1:Int):Option (Sl×Unit):=
 if (decide (((l0.len:Nat):Int) > most1))=true then(if (0:Int)≤most1∧most1≤((l0.cap:Nat):Int) then(some (⟨(sla l0.a 0 l0.cap 1),((Int.toNat (most1)) - 0),(l0.cap - 0)⟩,())) else none) else(some (l0,()))
theorem K_nw:FunFacts prog 24 f24 (bodyOf f24) [(0,.sl),(1,.int .i64)] [(0,13)]:=⟨func24,by kernel_rfl,by kernel_rfl,by kernel_rfl,by kernel_rfl,by kernel_rfl⟩
theorem K_12q(x:TT [(0,.sl),(1,.int .i64)])(w:World)(y:TR [.sl])(h:K_bt x.1 x.2.1=some y):Calls prog 24 (encA [(0,.sl),(1,.int .i64)] x).toArray w (fun e w3=>e= .returned (resV (encR [.sl] y))∧w3=w):=
  K_4j (O:=tabL []) (Lp:=[(0,.sl),(1,.int .i64)]) (Rt:=[.sl]) (S:=(fun x w=>K_bt x.1 x.2.1)) (K_16y) K_nw (OrcQ.nil _ _ _) (fun _ _=>by kernel_rfl) x w y h
noncomputable def K_vl:RE:=funR [(0,.sl),(1,.int .i64)] [.sl] (fun x w=>K_bt x.1 x.2.1)
theorem K_195:(K_vl).Ok prog 24:=K_4x K_nw fun x w y h=>K_12q x w y h
end Go.Sh
