/- Texts of this claim, put together: Sh6, Sh7, Sh8, Sh9, Sh10, Sh11 -/
import Derived.Test.YteomkfcfhlljkaaDoorAllShfobknc
set_option maxRecDepth 100000
set_option linter.unusedVariables false
namespace Go.Sh
open Go.Fw Go.Proofs.Tryd
noncomputable def K_tk (K:Nat):List (Nat×CE):=[]
theorem K_b0(K:Nat):Env.Ok prog (tab (K_tk K)):=(Env.nil _)
noncomputable def K_ud (K:Nat):List (Nat×RE):=[]
theorem K_b3(K:Nat):REnv.Ok prog (tab (K_ud K)):=(REnv.nil _)
noncomputable def K_4z (K:Nat) (out3:Sl) (a14:Bool) (w:World):Option ((Sl×Unit)×World):=
 if a14=true then(bnd (bldS prog 23 1 #[(0,(.int .u8 32))] w) fun s_1 w_2=>
 bnd (apd prog 23 23 (.slice out3.a out3.len out3.cap) (.slice s_1.a s_1.len s_1.cap) w_2) fun s_3 w_4=>
 some ((s_3,()),w_4)) else(some ((out3,()),w))
noncomputable def K_5j (K:Nat) (rec:Sl→Sl→Int→World→Option ((Sl×Unit)×World)) (b0:Sl) (out3:Sl) (i4:Int) (w:World):Option ((Sl×Unit)×World):=
 if (decide ((IntKind.i64.wrap (i4+1))<((b0.len:Nat):Int)))=true then(bnd (K_4z K out3 (decide (i4 > 0)) w) fun y_5 w_6=>
 (b0.a).bind fun p_7=>
 if (0:Int)≤i4∧i4<((b0.len:Nat):Int) then((b0.a).bind fun p_8=>
 if (0:Int)≤(IntKind.i64.wrap (i4+1))∧(IntKind.i64.wrap (i4+1))<((b0.len:Nat):Int) then((ldI .u8 (p_7.add ((Int.toNat i4)*1)) w_6.drew).bind fun v_9=>
 (ldI .u8 (p_8.add ((Int.toNat (IntKind.i64.wrap (i4+1)))*1)) w_6.drew).bind fun v_10=>
 if (0:Int)≤(Int.fdiv (bits .or .i64 (IntKind.i64.wrap ((IntKind.i64.wrap v_9)*2 ^ 8)) (IntKind.i64.wrap v_10)) (2 ^ 12)) then((str1[(Int.toNat (Int.fdiv (bits .or .i64 (IntKind.i64.wrap ((IntKind.i64.wrap v_9)*2 ^ 8)) (IntKind.i64.wrap v_10)) (2 ^ 12)))]?).bind fun b_11=>
 if (0:Int)≤(bits .and .i64 (Int.fdiv (bits .or .i64 (IntKind.i64.wrap ((IntKind.i64.wrap v_9)*2 ^ 8)) (IntKind.i64.wrap v_10)) (2 ^ 10)) 3) then((str2[(Int.toNat (bits .and .i64 (Int.fdiv (bits .or .i64 (IntKind.i64.wrap ((IntKind.i64.wrap v_9)*2 ^ 8)) (IntKind.i64.wrap v_10)) (2 ^ 10)) 3))]?).bind fun b_12=>
 if (0:Int)≤(bits .and .i64 (Int.fdiv (bits .or .i64 (IntKind.i64.wrap ((IntKind.i64.wrap v_9)*2 ^ 8)) (IntKind.i64.wrap v_10)) (2 ^ 6)) 15) then((str1[(Int.toNat (bits .and .i64 (Int.fdiv (bits .or .i64 (IntKind.i64.wrap ((IntKind.i64.wrap v_9)*2 ^ 8)) (IntKind.i64.wrap v_10)) (2 ^ 6)) 15))]?).bind fun b_13=>
 if (0:Int)≤(bits .and .i64 (Int.fdiv (bits .or .i64 (IntKind.i64.wrap ((IntKind.i64.wrap v_9)*2 ^ 8)) (IntKind.i64.wrap v_10)) (2 ^ 4)) 3) then((str2[(Int.toNat (bits .and .i64 (Int.fdiv (bits .or .i64 (IntKind.i64.wrap ((IntKind.i64.wrap v_9)*2 ^ 8)) (IntKind.i64.wrap v_10)) (2 ^ 4)) 3))]?).bind fun b_14=>
 if (0:Int)≤(bits .and .i64 (bits .or .i64 (IntKind.i64.wrap ((IntKind.i64.wrap v_9)*2 ^ 8)) (IntKind.i64.wrap v_10)) 15) then((str1[(Int.toNat (bits .and .i64 (bits .or .i64 (IntKind.i64.wrap ((IntKind.i64.wrap v_9)*2 ^ 8)) (IntKind.i64.wrap v_10)) 15))]?).bind fun b_15=>
 bnd (bldS prog 23 5 #[(0,(.int .u8 ((b_11.toNat:Nat):Int))),(1,(.int .u8 ((b_12.toNat:Nat):Int))),(2,(.int .u8 ((b_13.toNat:Nat):Int))),(3,(.int .u8 ((b_14.toNat:Nat):Int))),(4,(.int .u8 ((b_15.toNat:Nat):Int)))] w_6.drew.drew) fun s_16 w_17=>
 bnd (apd prog 23 23 (.slice y_5.1.a y_5.1.len y_5.1.cap) (.slice s_16.a s_16.len s_16.cap) w_17) fun s_18 w_19=>
 rec b0 s_18 (IntKind.i64.wrap (i4+2)) w_19) else none) else none) else none) else none) else none) else none) else none) else(some ((out3,()),w))
noncomputable def K_2j (K:Nat) (n:Nat):Sl→Sl→Int→World→Option ((Sl×Unit)×World):=iter (fun _ _ _ _=>none) (K_5j K) n
noncomputable def K_7t (K:Nat) (b0:Sl) (w:World):Option ((ByteArray×Unit)×World):=
 bnd (K_2j K K b0 ⟨none,0,0⟩ 0 w) fun y_20 w_21=>
 (b2sQ prog y_20.1.a y_20.1.len y_20.1.cap w_21).bind fun c_22=>
 some ((c_22,()),w_21)
theorem K_p1(K:Nat):StmtNOk prog [(3,.sl),(14,.bool)] [(3,.sl)] [(3,4),(15,18)] (fun x w=>K_4z K x.1 x.2.1 w) (cd (bodyOf f59) [1,1,0,1,0,0,1,0,0,0,1]):=
  K_y (O:=tabL []) (root:=(bodyOf f59)) (π:=[1,1,0,1,0,0,1,0,0,0,1]) (K_b0 K) (K_b3 K) rfl (Orc.nil _ _ _) (by kernel_rfl) (fun _ _=>by kernel_rfl)
noncomputable def K_9h (K:Nat):SE:=stmtN [(3,.sl),(14,.bool)] [(3,.sl)] [(3,4),(15,18)] (fun x w=>K_4z K x.1 x.2.1 w)
theorem K_bm(K:Nat)(R:Rg)(h:subRB [(3,4),(15,18)] R=true):(K_9h K).Ok prog R (cd (bodyOf f59) [1,1,0,1,0,0,1,0,0,0,1]):=K_2 (K_p1 K) (K_1 h)
theorem K_oh(K:Nat)(n:Nat):StmtNOk prog [(0,.sl),(3,.sl),(4,.int .i64)] [(3,.sl)] [(3,52)] ((fun n x w=>K_2j K n x.1 x.2.1 x.2.2.1 w) n) (.block 0 (.loop (cd (bodyOf f59) [1,1,0,1,0,0]))):=
  K_9 (O:=tabL [([1,1,0,1,0,0,1,0,0,0,1],K_9h K)]) (root:=(bodyOf f59)) (π:=[1,1,0,1,0,0]) (Li:=[(0,.sl),(3,.sl),(4,.int .i64)]) (Lo:=[(3,.sl)]) (S:=(fun n x w=>K_2j K n x.1 x.2.1 x.2.2.1 w)) (K_b0 K) (K_b3 K) rfl (Orc.cons (by kernel_rfl) (K_bm K [(3,52)] (by kernel_rfl)) (Orc.nil _ _ _)) (by kernel_rfl) (fun _ _=>by kernel_rfl) (fun _ _ _=>by kernel_rfl) n
noncomputable def K_ed (K:Nat):SE:=stmtN [(0,.sl),(3,.sl),(4,.int .i64)] [(3,.sl)] [(3,52)] (fun x w=>K_2j K K x.1 x.2.1 x.2.2.1 w)
theorem K_jf(K:Nat)(R:Rg)(h:subRB [(3,52)] R=true):(K_ed K).Ok prog R (.block 0 (.loop (cd (bodyOf f59) [1,1,0,1,0,0]))):=K_2 (K_oh K K) (K_1 h)
theorem K_dx:FunFacts prog 59 f59 (bodyOf f59) [(0,.sl)] [(0,54)]:=⟨func59,by kernel_rfl,by kernel_rfl,by kernel_rfl,by kernel_rfl,by kernel_rfl⟩
theorem K_oo(K:Nat)(x:TT [(0,.sl)])(w:World)(y:TR [.str])(w2:World)(h:K_7t K x.1 w=some (y,w2)):Calls prog 59 (encA [(0,.sl)] x).toArray w (fun e w3=>e= .returned (resV (encR [.str] y))∧w3=w2):=
  K_h (O:=tabL [([1,1,0,1],K_ed K),([1,1,0,1,0,0,1,0,0,0,1],K_9h K)]) (Lp:=[(0,.sl)]) (Rt:=[.str]) (S:=(fun x w=>K_7t K x.1 w)) (K_b0 K) (K_b3 K) rfl K_dx (Orc.cons (by kernel_rfl) (K_jf K [(0,54)] (by kernel_rfl)) (Orc.cons (by kernel_rfl) (K_bm K [(0,54)] (by kernel_rfl)) (Orc.nil _ _ _))) (fun _ _=>by kernel_rfl) x w y w2 h
noncomputable def K_hy (K:Nat):CE:=funE [(0,.sl)] [.str] (fun x w=>K_7t K x.1 w)
theorem K_sz(K:Nat):(K_hy K).Ok prog 59:=K_b K_dx fun x w y w2 h=>K_oo K x w y w2 h
noncomputable def K_n5 (K:Nat):List (Nat×CE):=[(82,K_b7 K),(59,K_hy K)]
theorem K_jl(K:Nat):Env.Ok prog (tab (K_n5 K)):=(Env.cons (K_k5 K) (Env.cons (K_sz K) (Env.nil _)))
noncomputable def K_my (K:Nat):List (Nat×RE):=[]
theorem K_kd(K:Nat):REnv.Ok prog (tab (K_my K)):=(REnv.nil _)
noncomputable def K_2c (K:Nat) (s0:Array Value) (w:World):Option ((ByteArray×Unit)×World):=
 bnd (newB s0 102 w) fun p_1 w_2=>
 (ldA 5 p_1 w_2).bind fun v_3=>
 bnd (K_36 K v_3 w_2) fun r_4 w_5=>
 bnd (K_7t K r_4.1 w_5) fun r_6 w_7=>
 some ((r_6.1,()),w_7)
theorem K_9r:FunFacts prog 55 f55 (bodyOf f55) [(0,.agg)] [(0,6)]:=⟨func55,by kernel_rfl,by kernel_rfl,by kernel_rfl,by kernel_rfl,by kernel_rfl⟩
theorem K_hh(K:Nat)(x:TT [(0,.agg)])(w:World)(y:TR [.str])(w2:World)(h:K_2c K x.1 w=some (y,w2)):Calls prog 55 (encA [(0,.agg)] x).toArray w (fun e w3=>e= .returned (resV (encR [.str] y))∧w3=w2):=
  K_h (O:=tabL []) (Lp:=[(0,.agg)]) (Rt:=[.str]) (S:=(fun x w=>K_2c K x.1 w)) (K_jl K) (K_kd K) rfl K_9r (Orc.nil _ _ _) (fun _ _=>by kernel_rfl) x w y w2 h
noncomputable def K_bz (K:Nat):CE:=funE [(0,.agg)] [.str] (fun x w=>K_2c K x.1 w)
theorem K_lv(K:Nat):(K_bz K).Ok prog 55:=K_b K_9r fun x w y w2 h=>K_hh K x w y w2 h
noncomputable def K_vi (K:Nat):List (Nat×CE):=[(52,K_en K),(53,K_f0),(54,K_oc K),(55,K_bz K)]
theorem K_8u(K:Nat):Env.Ok prog (tab (K_vi K)):=(Env.cons (K_mn K) (Env.cons (K_pe) (Env.cons (K_ww K) (Env.cons (K_lv K) (Env.nil _)))))
noncomputable def K_vo (K:Nat):List (Nat×RE):=[(51,K_mj),(17,K_gi)]
theorem K_8t(K:Nat):REnv.Ok prog (tab (K_vo K)):=(REnv.cons (K_vl) (REnv.cons (K_rs) (REnv.nil _)))
noncomputable def K_68 (K:Nat) (rec:Int→Sl→Int→Int→Sl→Sl→Sl→Int→Sl→Sl→Int→Int→Int→Int→World→Option ((Sl×Unit)×World)) (set0:Int) (secret1:Sl) (need2:Int) (count3:Int) (random4:Sl) (t13:Sl) (lines14:Sl) (i15:Int) (l17:Sl) (a38:Sl) (a39:Int) (a40:Int) (a48:Int) (a49:Int) (w:World):Option ((Sl×Unit)×World):=
 if (decide (a49<a48))=true then((random4.a).bind fun p_9=>
 if (0:Int)≤(IntKind.i64.wrap ((IntKind.i64.wrap (a49*((t13.len:Nat):Int)))+i15))∧(IntKind.i64.wrap ((IntKind.i64.wrap (a49*((t13.len:Nat):Int)))+i15))<((random4.len:Nat):Int) then((ldI .u8 (p_9.add ((Int.toNat (IntKind.i64.wrap ((IntKind.i64.wrap (a49*((t13.len:Nat):Int)))+i15)))*1)) w).bind fun v_10=>
 bnd (bldS prog 23 1 #[(0,(.int .u8 v_10))] w) fun s_11 w_12=>
 bnd (apd prog 23 23 (.slice l17.a l17.len l17.cap) (.slice s_11.a s_11.len s_11.cap) w_12) fun s_13 w_14=>
 rec set0 secret1 need2 count3 random4 t13 lines14 i15 s_13 a38 a39 a40 a48 (IntKind.i64.wrap (a49+1)) w_14) else none) else(some ((l17,()),w))
noncomputable def K_38 (K:Nat) (n:Nat):Int→Sl→Int→Int→Sl→Sl→Sl→Int→Sl→Sl→Int→Int→Int→Int→World→Option ((Sl×Unit)×World):=iter (fun _ _ _ _ _ _ _ _ _ _ _ _ _ _ _=>none) (K_68 K) n
noncomputable def K_67 (K:Nat) (rec:Int→Sl→Int→Int→Sl→Sl→Sl→Sl→Int→Int→World→Option ((Sl×Unit)×World)) (set0:Int) (secret1:Sl) (need2:Int) (count3:Int) (random4:Sl) (t13:Sl) (lines14:Sl) (a38:Sl) (a39:Int) (a40:Int) (w:World):Option ((Sl×Unit)×World):=
 if (decide (a40<a39))=true then((a38.a).bind fun p_5=>
 if (0:Int)≤a40∧a40<((a38.len:Nat):Int) then((ldI .u8 (p_5.add ((Int.toNat a40)*1)) w).bind fun v_6=>
 bnd (bldS prog 23 1 #[(0,(.int .u8 v_6))] w) fun s_7 w_8=>
 bnd (K_38 K K set0 secret1 need2 count3 random4 t13 lines14 a40 s_7 a38 a39 a40 (IntKind.i64.wrap (need2 - 1)) 0 w_8) fun y_15 w_16=>
 bnd (K_60 y_15.1 w_16) fun r_17 w_18=>
 bnd (bldS prog 96 1 #[(0,r_17.1)] w_18) fun s_19 w_20=>
 bnd (apd prog 96 96 (.slice lines14.a lines14.len lines14.cap) (.slice s_19.a s_19.len s_19.cap) w_20) fun s_21 w_22=>
 rec set0 secret1 need2 count3 random4 t13 s_21 a38 a39 (IntKind.i64.wrap (a40+1)) w_22) else none) else(some ((lines14,()),w))
noncomputable def K_2x (K:Nat) (n:Nat):Int→Sl→Int→Int→Sl→Sl→Sl→Sl→Int→Int→World→Option ((Sl×Unit)×World):=iter (fun _ _ _ _ _ _ _ _ _ _ _=>none) (K_67 K) n
noncomputable def K_65 (K:Nat) (rec:Int→Sl→Int→Int→Sl→Sl→Int→World→Option ((Sl×Unit)×World)) (set0:Int) (secret1:Sl) (need2:Int) (count3:Int) (lines14:Sl) (out19:Sl) (x20:Int) (w:World):Option ((Sl×Unit)×World):=
 if (decide (x20≤count3))=true then((prog.built 84 [(0,(.int .u16 set0)),(1,(.int .i64 need2)),(2,(.int .i64 x20)),(3,(.int .i64 ((secret1.len:Nat):Int)))]).bind fun cs_25=>
 bnd (K_b5 K lines14 x20 w) fun r_26 w_27=>
 (prog.built 102 [(0,(.agg cs_25)),(1,(.slice r_26.1.a r_26.1.len r_26.1.cap))]).bind fun cs_28=>
 bnd (K_2c K cs_28 w_27) fun r_29 w_30=>
 bnd (bldS prog 29 1 #[(0,(.string r_29.1))] w_30) fun s_31 w_32=>
 bnd (apd prog 29 29 (.slice out19.a out19.len out19.cap) (.slice s_31.a s_31.len s_31.cap) w_32) fun s_33 w_34=>
 rec set0 secret1 need2 count3 lines14 s_33 (IntKind.i64.wrap (x20+1)) w_34) else(some ((out19,()),w))
noncomputable def K_2y (K:Nat) (n:Nat):Int→Sl→Int→Int→Sl→Sl→Int→World→Option ((Sl×Unit)×World):=iter (fun _ _ _ _ _ _ _ _=>none) (K_65 K) n
noncomputable def K_5x (K:Nat) (set0:Int) (secret1:Sl) (need2:Int) (count3:Int) (random4:Sl) (w:World):Option ((Sl×Int×Unit)×World):=
 (K_cb secret1 need2 count3).bind fun r_1=>
 if (r_1.1 != 0)=true then(some ((⟨none,0,0⟩,r_1.1,()),w)) else((K_8h need2 ((secret1.len:Nat):Int)).bind fun r_2=>
 if (((random4.len:Nat):Int) != r_2.1)=true then(some ((⟨none,0,0⟩,5,()),w)) else(bnd (K_8d K set0 secret1 w) fun r_3 w_4=>
 bnd (K_2x K K set0 secret1 need2 count3 random4 r_3.1 ⟨none,0,0⟩ r_3.1 ((r_3.1.len:Nat):Int) 0 w_4) fun y_23 w_24=>
 bnd (K_2y K K set0 secret1 need2 count3 y_23.1 ⟨none,0,0⟩ 1 w_24) fun y_35 w_36=>
 some ((y_35.1,0,()),w_36)))
theorem K_pd(K:Nat)(n:Nat):StmtNOk prog [(0,.int .u16),(1,.sl),(2,.int .i64),(3,.int .i64),(4,.sl),(13,.sl),(14,.sl),(15,.int .i64),(17,.sl),(38,.sl),(39,.int .i64),(40,.int .i64),(48,.int .i64),(49,.int .i64)] [(17,.sl)] [(17,19),(49,65)] ((fun n x w=>K_38 K n x.1 x.2.1 x.2.2.1 x.2.2.2.1 x.2.2.2.2.1 x.2.2.2.2.2.1 x.2.2.2.2.2.2.1 x.2.2.2.2.2.2.2.1 x.2.2.2.2.2.2.2.2.1 x.2.2.2.2.2.2.2.2.2.1 x.2.2.2.2.2.2.2.2.2.2.1 x.2.2.2.2.2.2.2.2.2.2.2.1 x.2.2.2.2.2.2.2.2.2.2.2.2.1 x.2.2.2.2.2.2.2.2.2.2.2.2.2.1 w) n) (.block 2 (.loop (cd (bodyOf f16) [1,1,1,1,1,0,1,0,0,1,1,0,0,1,1,0,1,0,0]))):=
  K_9 (O:=tabL []) (root:=(bodyOf f16)) (π:=[1,1,1,1,1,0,1,0,0,1,1,0,0,1,1,0,1,0,0]) (Li:=[(0,.int .u16),(1,.sl),(2,.int .i64),(3,.int .i64),(4,.sl),(13,.sl),(14,.sl),(15,.int .i64),(17,.sl),(38,.sl),(39,.int .i64),(40,.int .i64),(48,.int .i64),(49,.int .i64)]) (Lo:=[(17,.sl)]) (S:=(fun n x w=>K_38 K n x.1 x.2.1 x.2.2.1 x.2.2.2.1 x.2.2.2.2.1 x.2.2.2.2.2.1 x.2.2.2.2.2.2.1 x.2.2.2.2.2.2.2.1 x.2.2.2.2.2.2.2.2.1 x.2.2.2.2.2.2.2.2.2.1 x.2.2.2.2.2.2.2.2.2.2.1 x.2.2.2.2.2.2.2.2.2.2.2.1 x.2.2.2.2.2.2.2.2.2.2.2.2.1 x.2.2.2.2.2.2.2.2.2.2.2.2.2.1 w)) (K_8u K) (K_8t K) rfl (Orc.nil _ _ _) (by kernel_rfl) (fun _ _=>by kernel_rfl) (fun _ _ _=>by kernel_rfl) n
noncomputable def K_ae (K:Nat):SE:=stmtN [(0,.int .u16),(1,.sl),(2,.int .i64),(3,.int .i64),(4,.sl),(13,.sl),(14,.sl),(15,.int .i64),(17,.sl),(38,.sl),(39,.int .i64),(40,.int .i64),(48,.int .i64),(49,.int .i64)] [(17,.sl)] [(17,19),(49,65)] (fun x w=>K_38 K K x.1 x.2.1 x.2.2.1 x.2.2.2.1 x.2.2.2.2.1 x.2.2.2.2.2.1 x.2.2.2.2.2.2.1 x.2.2.2.2.2.2.2.1 x.2.2.2.2.2.2.2.2.1 x.2.2.2.2.2.2.2.2.2.1 x.2.2.2.2.2.2.2.2.2.2.1 x.2.2.2.2.2.2.2.2.2.2.2.1 x.2.2.2.2.2.2.2.2.2.2.2.2.1 x.2.2.2.2.2.2.2.2.2.2.2.2.2.1 w)
theorem K_cd(K:Nat)(R:Rg)(h:subRB [(17,19),(49,65)] R=true):(K_ae K).Ok prog R (.block 2 (.loop (cd (bodyOf f16) [1,1,1,1,1,0,1,0,0,1,1,0,0,1,1,0,1,0,0]))):=K_2 (K_pd K K) (K_1 h)
theorem K_q4(K:Nat)(n:Nat):StmtNOk prog [(0,.int .u16),(1,.sl),(2,.int .i64),(3,.int .i64),(4,.sl),(13,.sl),(14,.sl),(38,.sl),(39,.int .i64),(40,.int .i64)] [(14,.sl)] [(14,19),(40,71)] ((fun n x w=>K_2x K n x.1 x.2.1 x.2.2.1 x.2.2.2.1 x.2.2.2.2.1 x.2.2.2.2.2.1 x.2.2.2.2.2.2.1 x.2.2.2.2.2.2.2.1 x.2.2.2.2.2.2.2.2.1 x.2.2.2.2.2.2.2.2.2.1 w) n) (.block 0 (.loop (cd (bodyOf f16) [1,1,1,1,1,0,1,0,0]))):=
  K_9 (O:=tabL [([1,1,1,1,1,0,1,0,0,1,1,0,0,1,1,0,1],K_ae K)]) (root:=(bodyOf f16)) (π:=[1,1,1,1,1,0,1,0,0]) (Li:=[(0,.int .u16),(1,.sl),(2,.int .i64),(3,.int .i64),(4,.sl),(13,.sl),(14,.sl),(38,.sl),(39,.int .i64),(40,.int .i64)]) (Lo:=[(14,.sl)]) (S:=(fun n x w=>K_2x K n x.1 x.2.1 x.2.2.1 x.2.2.2.1 x.2.2.2.2.1 x.2.2.2.2.2.1 x.2.2.2.2.2.2.1 x.2.2.2.2.2.2.2.1 x.2.2.2.2.2.2.2.2.1 x.2.2.2.2.2.2.2.2.2.1 w)) (K_8u K) (K_8t K) rfl (Orc.cons (by kernel_rfl) (K_cd K [(14,19),(40,71)] (by kernel_rfl)) (Orc.nil _ _ _)) (by kernel_rfl) (fun _ _=>by kernel_rfl) (fun _ _ _=>by kernel_rfl) n
noncomputable def K_ez (K:Nat):SE:=stmtN [(0,.int .u16),(1,.sl),(2,.int .i64),(3,.int .i64),(4,.sl),(13,.sl),(14,.sl),(38,.sl),(39,.int .i64),(40,.int .i64)] [(14,.sl)] [(14,19),(40,71)] (fun x w=>K_2x K K x.1 x.2.1 x.2.2.1 x.2.2.2.1 x.2.2.2.2.1 x.2.2.2.2.2.1 x.2.2.2.2.2.2.1 x.2.2.2.2.2.2.2.1 x.2.2.2.2.2.2.2.2.1 x.2.2.2.2.2.2.2.2.2.1 w)
theorem K_l4(K:Nat)(R:Rg)(h:subRB [(14,19),(40,71)] R=true):(K_ez K).Ok prog R (.block 0 (.loop (cd (bodyOf f16) [1,1,1,1,1,0,1,0,0]))):=K_2 (K_q4 K K) (K_1 h)
theorem K_pg(K:Nat)(n:Nat):StmtNOk prog [(0,.int .u16),(1,.sl),(2,.int .i64),(3,.int .i64),(14,.sl),(19,.sl),(20,.int .i64)] [(19,.sl)] [(19,21),(71,90)] ((fun n x w=>K_2y K n x.1 x.2.1 x.2.2.1 x.2.2.2.1 x.2.2.2.2.1 x.2.2.2.2.2.1 x.2.2.2.2.2.2.1 w) n) (.block 4 (.loop (cd (bodyOf f16) [1,1,1,1,1,1,1,0,1,0,0]))):=
  K_9 (O:=tabL []) (root:=(bodyOf f16)) (π:=[1,1,1,1,1,1,1,0,1,0,0]) (Li:=[(0,.int .u16),(1,.sl),(2,.int .i64),(3,.int .i64),(14,.sl),(19,.sl),(20,.int .i64)]) (Lo:=[(19,.sl)]) (S:=(fun n x w=>K_2y K n x.1 x.2.1 x.2.2.1 x.2.2.2.1 x.2.2.2.2.1 x.2.2.2.2.2.1 x.2.2.2.2.2.2.1 w)) (K_8u K) (K_8t K) rfl (Orc.nil _ _ _) (by kernel_rfl) (fun _ _=>by kernel_rfl) (fun _ _ _=>by kernel_rfl) n
noncomputable def K_f8 (K:Nat):SE:=stmtN [(0,.int .u16),(1,.sl),(2,.int .i64),(3,.int .i64),(14,.sl),(19,.sl),(20,.int .i64)] [(19,.sl)] [(19,21),(71,90)] (fun x w=>K_2y K K x.1 x.2.1 x.2.2.1 x.2.2.2.1 x.2.2.2.2.1 x.2.2.2.2.2.1 x.2.2.2.2.2.2.1 w)
theorem K_lk(K:Nat)(R:Rg)(h:subRB [(19,21),(71,90)] R=true):(K_f8 K).Ok prog R (.block 4 (.loop (cd (bodyOf f16) [1,1,1,1,1,1,1,0,1,0,0]))):=K_2 (K_pg K K) (K_1 h)
theorem K_ey:FunFacts prog 16 f16 (bodyOf f16) [(0,.int .u16),(1,.sl),(2,.int .i64),(3,.int .i64),(4,.sl)] [(0,91)]:=⟨func16,by kernel_rfl,by kernel_rfl,by kernel_rfl,by kernel_rfl,by kernel_rfl⟩
theorem K_q1(K:Nat)(x:TT [(0,.int .u16),(1,.sl),(2,.int .i64),(3,.int .i64),(4,.sl)])(w:World)(y:TR [.sl,.int .i64])(w2:World)(h:K_5x K x.1 x.2.1 x.2.2.1 x.2.2.2.1 x.2.2.2.2.1 w=some (y,w2)):Calls prog 16 (encA [(0,.int .u16),(1,.sl),(2,.int .i64),(3,.int .i64),(4,.sl)] x).toArray w (fun e w3=>e= .returned (resV (encR [.sl,.int .i64] y))∧w3=w2):=
  K_h (O:=tabL [([1,1,1,1,1,0,1],K_ez K),([1,1,1,1,1,0,1,0,0,1,1,0,0,1,1,0,1],K_ae K),([1,1,1,1,1,1,1,0,1],K_f8 K)]) (Lp:=[(0,.int .u16),(1,.sl),(2,.int .i64),(3,.int .i64),(4,.sl)]) (Rt:=[.sl,.int .i64]) (S:=(fun x w=>K_5x K x.1 x.2.1 x.2.2.1 x.2.2.2.1 x.2.2.2.2.1 w)) (K_8u K) (K_8t K) rfl K_ey (Orc.cons (by kernel_rfl) (K_l4 K [(0,91)] (by kernel_rfl)) (Orc.cons (by kernel_rfl) (K_cd K [(0,91)] (by kernel_rfl)) (Orc.cons (by kernel_rfl) (K_lk K [(0,91)] (by kernel_rfl)) (Orc.nil _ _ _)))) (fun _ _=>by kernel_rfl) x w y w2 h
noncomputable def K_dk (K:Nat):CE:=funE [(0,.int .u16),(1,.sl),(2,.int .i64),(3,.int .i64),(4,.sl)] [.sl,.int .i64] (fun x w=>K_5x K x.1 x.2.1 x.2.2.1 x.2.2.2.1 x.2.2.2.2.1 w)
theorem K_k8(K:Nat):(K_dk K).Ok prog 16:=K_b K_ey fun x w y w2 h=>K_q1 K x w y w2 h
noncomputable def K_y6:List (Nat×RE):=[]
theorem K_vp:REnv.Ok prog (tab (K_y6)):=(REnv.nil _)
noncomputable def K_5w (e0:Int):Option (Int×Unit):=
 some (e0,())
theorem K_hv:FunFacts prog 19 f19 (bodyOf f19) [(0,.int .i64)] [(0,4)]:=⟨func19,by kernel_rfl,by kernel_rfl,by kernel_rfl,by kernel_rfl,by kernel_rfl⟩
theorem K_sm(x:TT [(0,.int .i64)])(w:World)(y:TR [.int .i64])(h:K_5w x.1=some y):Calls prog 19 (encA [(0,.int .i64)] x).toArray w (fun e w3=>e= .returned (resV (encR [.int .i64] y))∧w3=w):=
  K_6p (O:=tabL []) (Lp:=[(0,.int .i64)]) (Rt:=[.int .i64]) (S:=(fun x w=>K_5w x.1)) (K_vp) K_hv (OrcQ.nil _ _ _) (fun _ _=>by kernel_rfl) x w y h
noncomputable def K_gh:RE:=funR [(0,.int .i64)] [.int .i64] (fun x w=>K_5w x.1)
theorem K_nw:(K_gh).Ok prog 19:=K_6o K_hv fun x w y h=>K_sm x w y h
noncomputable def K_rk (K:Nat):List (Nat×CE):=[]
theorem K_dv(K:Nat):Env.Ok prog (tab (K_rk K)):=(Env.nil _)
noncomputable def K_rj (K:Nat):List (Nat×RE):=[]
theorem K_e0(K:Nat):REnv.Ok prog (tab (K_rj K)):=(REnv.nil _)
noncomputable def K_2l (K:Nat) (rec:Sl→Sl→Int→World→Option ((Out (Unit) (Bool×Unit))×World)) (a0:Sl) (b1:Sl) (i5:Int) (w:World):Option ((Out (Unit) (Bool×Unit))×World):=
 if (decide (i5<((a0.len:Nat):Int)))=true then((a0.a).bind fun p_1=>
 if (0:Int)≤i5∧i5<((a0.len:Nat):Int) then((b1.a).bind fun p_2=>
 if (0:Int)≤i5∧i5<((b1.len:Nat):Int) then((ldI .u8 (p_1.add ((Int.toNat i5)*1)) w.drew).bind fun v_3=>
 (ldI .u8 (p_2.add ((Int.toNat i5)*1)) w.drew).bind fun v_4=>
 if (v_3 != v_4)=true then(some (.ret (false,()),w.drew)) else(rec a0 b1 (IntKind.i64.wrap (i5+1)) w.drew)) else none) else none) else(some (.norm (),w))
noncomputable def K_1q (K:Nat) (n:Nat):Sl→Sl→Int→World→Option ((Out (Unit) (Bool×Unit))×World):=iter (fun _ _ _ _=>none) (K_2l K) n
noncomputable def K_48 (K:Nat) (a0:Sl) (b1:Sl) (w:World):Option ((Bool×Unit)×World):=
 if (((a0.len:Nat):Int) != ((b1.len:Nat):Int))=true then(some ((false,()),w)) else(bnd (K_1q K K a0 b1 0 w) fun y_5 w_6=>
 (match y_5 with
 | .norm z_7n=>(some ((true,()),w_6))
 | .ret z_7r=>(some ((z_7r.1,()),w_6))))
theorem K_l2(K:Nat)(n:Nat):StmtOk prog [(0,.sl),(1,.sl),(5,.int .i64)] [] [(4,.bool)] [(4,6),(11,26)] ((fun n x w=>K_1q K n x.1 x.2.1 x.2.2.1 w) n) (.block 0 (.loop (cd (bodyOf f30) [1,1,0,1,0,0]))):=
  K_7g (O:=tabL []) (root:=(bodyOf f30)) (π:=[1,1,0,1,0,0]) (Li:=[(0,.sl),(1,.sl),(5,.int .i64)]) (Lo:=[]) (Lr:=[(4,.bool)]) (S:=(fun n x w=>K_1q K n x.1 x.2.1 x.2.2.1 w)) (K_dv K) (K_e0 K) rfl (Orc.nil _ _ _) (by kernel_rfl) (fun _ _=>by kernel_rfl) (fun _ _ _=>by kernel_rfl) n
noncomputable def K_cm (K:Nat):SE:=stmt [(0,.sl),(1,.sl),(5,.int .i64)] [] [(4,.bool)] [(4,6),(11,26)] (fun x w=>K_1q K K x.1 x.2.1 x.2.2.1 w)
theorem K_hn(K:Nat)(R:Rg)(h:subRB [(4,6),(11,26)] R=true):(K_cm K).Ok prog R (.block 0 (.loop (cd (bodyOf f30) [1,1,0,1,0,0]))):=K_5z (K_l2 K K) (K_1 h)
theorem K_cs:FunFacts prog 30 f30 (bodyOf f30) [(0,.sl),(1,.sl)] [(0,26)]:=⟨func30,by kernel_rfl,by kernel_rfl,by kernel_rfl,by kernel_rfl,by kernel_rfl⟩
theorem K_ly(K:Nat)(x:TT [(0,.sl),(1,.sl)])(w:World)(y:TR [.bool])(w2:World)(h:K_48 K x.1 x.2.1 w=some (y,w2)):Calls prog 30 (encA [(0,.sl),(1,.sl)] x).toArray w (fun e w3=>e= .returned (resV (encR [.bool] y))∧w3=w2):=
  K_h (O:=tabL [([1,1,0,1],K_cm K)]) (Lp:=[(0,.sl),(1,.sl)]) (Rt:=[.bool]) (S:=(fun x w=>K_48 K x.1 x.2.1 w)) (K_dv K) (K_e0 K) rfl K_cs (Orc.cons (by kernel_rfl) (K_hn K [(0,26)] (by kernel_rfl)) (Orc.nil _ _ _)) (fun _ _=>by kernel_rfl) x w y w2 h
noncomputable def K_eu (K:Nat):CE:=funE [(0,.sl),(1,.sl)] [.bool] (fun x w=>K_48 K x.1 x.2.1 w)
theorem K_pp(K:Nat):(K_eu K).Ok prog 30:=K_b K_cs fun x w y w2 h=>K_ly K x w y w2 h
end Go.Sh

namespace Go.Sh
open Go.Fw Go.Proofs.Tryd
end Go.Sh

namespace Go.Sh
open Go.Fw Go.Proofs.Tryd
end Go.Sh

namespace Go.Sh
open Go.Fw Go.Proofs.Tryd
noncomputable def K_tr (K:Nat):List (Nat×CE):=[]
theorem K_80(K:Nat):Env.Ok prog (tab (K_tr K)):=(Env.nil _)
noncomputable def K_ue (K:Nat):List (Nat×RE):=[]
theorem K_89(K:Nat):REnv.Ok prog (tab (K_ue K)):=(REnv.nil _)
noncomputable def K_6u (K:Nat) (set6:ByteArray) (bits7:Int) (a18:Bool) (w:World):Option ((ByteArray×Int×Unit)×World):=
 if a18=true then(some ((str2,2,()),w)) else(some ((set6,bits7,()),w))
noncomputable def K_5b (K:Nat) (rec:Int→Int→ByteArray→Int→Sl→Int→Int→Int→Int→World→Option ((Out (Unit) (Int×Unit))×World)) (v3:Int) (c5:Int) (set6:ByteArray) (bits7:Int) (a9:Sl) (a10:Int) (a11:Int) (a20:Int) (a21:Int) (w:World):Option ((Out (Unit) (Int×Unit))×World):=
 if (decide (a21<a20))=true then(if (0:Int)≤a21 then((set6[(Int.toNat a21)]?).bind fun b_5=>
 if (((b_5.toNat:Nat):Int) == c5)=true then(if (0:Int)≤bits7 then(some (.ret ((bits .or .i64 (IntKind.i64.wrap (v3*2 ^ (min (Int.toNat bits7) IntKind.i64.bits))) a21),()),w)) else none) else(rec v3 c5 set6 bits7 a9 a10 a11 a20 (IntKind.i64.wrap (a21+1)) w)) else none) else(some (.norm (),w))
noncomputable def K_2g (K:Nat) (n:Nat):Int→Int→ByteArray→Int→Sl→Int→Int→Int→Int→World→Option ((Out (Unit) (Int×Unit))×World):=iter (fun _ _ _ _ _ _ _ _ _ _=>none) (K_5b K) n
noncomputable def K_5d (K:Nat) (rec:Int→Sl→Int→Int→World→Option ((Out (Int×Unit) (Int×Unit))×World)) (v3:Int) (a9:Sl) (a10:Int) (a11:Int) (w:World):Option ((Out (Int×Unit) (Int×Unit))×World):=
 if (decide (a11<a10))=true then((a9.a).bind fun p_1=>
 if (0:Int)≤a11∧a11<((a9.len:Nat):Int) then((ldI .u8 (p_1.add ((Int.toNat a11)*1)) w).bind fun v_2=>
 bnd (K_6u K str1 4 ((Int.tmod a11 2) == 1) w) fun y_3 w_4=>
 bnd (K_2g K K v3 v_2 y_3.1 y_3.2.1 a9 a10 a11 ((y_3.1.size:Nat):Int) 0 w_4) fun y_6 w_7=>
 (match y_6 with
 | .norm z_8n=>(some (.ret (0,()),w_7))
 | .ret z_8r=>(rec z_8r.1 a9 a10 (IntKind.i64.wrap (a11+1)) w_7))) else none) else(some (.norm (v3,()),w))
noncomputable def K_2d (K:Nat) (n:Nat):Int→Sl→Int→Int→World→Option ((Out (Int×Unit) (Int×Unit))×World):=iter (fun _ _ _ _ _=>none) (K_5d K) n
noncomputable def K_7m (K:Nat) (word0:Sl) (w:World):Option ((Int×Unit)×World):=
 bnd (K_2d K K 0 word0 ((word0.len:Nat):Int) 0 w) fun y_9 w_10=>
 (match y_9 with
 | .norm z_11n=>(some ((z_11n.1,()),w_10))
 | .ret z_11r=>(some ((z_11r.1,()),w_10)))
theorem K_ou(K:Nat):StmtNOk prog [(6,.str),(7,.int .i64),(18,.bool)] [(6,.str),(7,.int .i64)] [(6,8)] (fun x w=>K_6u K x.1 x.2.1 x.2.2.1 w) (cd (bodyOf f121) [1,0,1,1,0,1,0,0,1,1,0,0,1,1,0,1]):=
  K_y (O:=tabL []) (root:=(bodyOf f121)) (π:=[1,0,1,1,0,1,0,0,1,1,0,0,1,1,0,1]) (K_80 K) (K_89 K) rfl (Orc.nil _ _ _) (by kernel_rfl) (fun _ _=>by kernel_rfl)
noncomputable def K_9a (K:Nat):SE:=stmtN [(6,.str),(7,.int .i64),(18,.bool)] [(6,.str),(7,.int .i64)] [(6,8)] (fun x w=>K_6u K x.1 x.2.1 x.2.2.1 w)
theorem K_b9(K:Nat)(R:Rg)(h:subRB [(6,8)] R=true):(K_9a K).Ok prog R (cd (bodyOf f121) [1,0,1,1,0,1,0,0,1,1,0,0,1,1,0,1]):=K_2 (K_ou K) (K_1 h)
theorem K_nz(K:Nat)(n:Nat):StmtEOk prog 1 [(3,.int .i64),(5,.int .u8),(6,.str),(7,.int .i64),(9,.sl),(10,.int .i64),(11,.int .i64),(20,.int .i64),(21,.int .i64)] [] [(3,.int .i64)] [(3,4),(8,9),(21,35)] ((fun n x w=>K_2g K n x.1 x.2.1 x.2.2.1 x.2.2.2.1 x.2.2.2.2.1 x.2.2.2.2.2.1 x.2.2.2.2.2.2.1 x.2.2.2.2.2.2.2.1 x.2.2.2.2.2.2.2.2.1 w) n) (.block 2 (.loop (cd (bodyOf f121) [1,0,1,1,0,1,0,0,1,1,0,0,1,1,1,0,1,0,0]))):=
  K_13l (O:=tabL []) (root:=(bodyOf f121)) (π:=[1,0,1,1,0,1,0,0,1,1,0,0,1,1,1,0,1,0,0]) (m:=1) (Li:=[(3,.int .i64),(5,.int .u8),(6,.str),(7,.int .i64),(9,.sl),(10,.int .i64),(11,.int .i64),(20,.int .i64),(21,.int .i64)]) (Lo:=[]) (Lx:=[(3,.int .i64)]) (S:=(fun n x w=>K_2g K n x.1 x.2.1 x.2.2.1 x.2.2.2.1 x.2.2.2.2.1 x.2.2.2.2.2.1 x.2.2.2.2.2.2.1 x.2.2.2.2.2.2.2.1 x.2.2.2.2.2.2.2.2.1 w)) (K_80 K) (K_89 K) rfl (Orc.nil _ _ _) (by kernel_rfl) (fun _ _=>by kernel_rfl) (fun _ _ _=>by kernel_rfl) n
noncomputable def K_9e (K:Nat):SE:=stmtE 1 [(3,.int .i64),(5,.int .u8),(6,.str),(7,.int .i64),(9,.sl),(10,.int .i64),(11,.int .i64),(20,.int .i64),(21,.int .i64)] [] [(3,.int .i64)] [(3,4),(8,9),(21,35)] (fun x w=>K_2g K K x.1 x.2.1 x.2.2.1 x.2.2.2.1 x.2.2.2.2.1 x.2.2.2.2.2.1 x.2.2.2.2.2.2.1 x.2.2.2.2.2.2.2.1 x.2.2.2.2.2.2.2.2.1 w)
theorem K_bj(K:Nat)(R:Rg)(h:subRB [(3,4),(8,9),(21,35)] R=true):(K_9e K).Ok prog R (.block 2 (.loop (cd (bodyOf f121) [1,0,1,1,0,1,0,0,1,1,0,0,1,1,1,0,1,0,0]))):=K_13q (m:=1) (Lx:=[(3,.int .i64)]) (K_nz K K) (K_1 h)
theorem K_ob(K:Nat)(n:Nat):StmtOk prog [(3,.int .i64),(9,.sl),(10,.int .i64),(11,.int .i64)] [(3,.int .i64)] [(2,.int .i64)] [(2,9),(11,36)] ((fun n x w=>K_2d K n x.1 x.2.1 x.2.2.1 x.2.2.2.1 w) n) (.block 0 (.loop (cd (bodyOf f121) [1,0,1,1,0,1,0,0]))):=
  K_7g (O:=tabL [([1,0,1,1,0,1,0,0,1,1,0,0,1,1,0,1],K_9a K),([1,0,1,1,0,1,0,0,1,1,0,0,1,1,1,0,1],K_9e K)]) (root:=(bodyOf f121)) (π:=[1,0,1,1,0,1,0,0]) (Li:=[(3,.int .i64),(9,.sl),(10,.int .i64),(11,.int .i64)]) (Lo:=[(3,.int .i64)]) (Lr:=[(2,.int .i64)]) (S:=(fun n x w=>K_2d K n x.1 x.2.1 x.2.2.1 x.2.2.2.1 w)) (K_80 K) (K_89 K) rfl (Orc.cons (by kernel_rfl) (K_b9 K [(2,9),(11,36)] (by kernel_rfl)) (Orc.cons (by kernel_rfl) (K_bj K [(2,9),(11,36)] (by kernel_rfl)) (Orc.nil _ _ _))) (by kernel_rfl) (fun _ _=>by kernel_rfl) (fun _ _ _=>by kernel_rfl) n
noncomputable def K_eb (K:Nat):SE:=stmt [(3,.int .i64),(9,.sl),(10,.int .i64),(11,.int .i64)] [(3,.int .i64)] [(2,.int .i64)] [(2,9),(11,36)] (fun x w=>K_2d K K x.1 x.2.1 x.2.2.1 x.2.2.2.1 w)
theorem K_j3(K:Nat)(R:Rg)(h:subRB [(2,9),(11,36)] R=true):(K_eb K).Ok prog R (.block 0 (.loop (cd (bodyOf f121) [1,0,1,1,0,1,0,0]))):=K_5z (K_ob K K) (K_1 h)
theorem K_e2:FunFacts prog 121 f121 (bodyOf f121) [(0,.sl)] [(0,37)]:=⟨func121,by kernel_rfl,by kernel_rfl,by kernel_rfl,by kernel_rfl,by kernel_rfl⟩
theorem K_p0(K:Nat)(x:TT [(0,.sl)])(w:World)(y:TR [.int .i64])(w2:World)(h:K_7m K x.1 w=some (y,w2)):Calls prog 121 (encA [(0,.sl)] x).toArray w (fun e w3=>e= .returned (resV (encR [.int .i64] y))∧w3=w2):=
  K_h (O:=tabL [([1,0,1,1,0,1],K_eb K),([1,0,1,1,0,1,0,0,1,1,0,0,1,1,0,1],K_9a K),([1,0,1,1,0,1,0,0,1,1,0,0,1,1,1,0,1],K_9e K)]) (Lp:=[(0,.sl)]) (Rt:=[.int .i64]) (S:=(fun x w=>K_7m K x.1 w)) (K_80 K) (K_89 K) rfl K_e2 (Orc.cons (by kernel_rfl) (K_j3 K [(0,37)] (by kernel_rfl)) (Orc.cons (by kernel_rfl) (K_b9 K [(0,37)] (by kernel_rfl)) (Orc.cons (by kernel_rfl) (K_bj K [(0,37)] (by kernel_rfl)) (Orc.nil _ _ _)))) (fun _ _=>by kernel_rfl) x w y w2 h
noncomputable def K_i4 (K:Nat):CE:=funE [(0,.sl)] [.int .i64] (fun x w=>K_7m K x.1 w)
theorem K_tb(K:Nat):(K_i4 K).Ok prog 121:=K_b K_e2 fun x w y w2 h=>K_p0 K x w y w2 h
noncomputable def K_n7 (K:Nat):List (Nat×CE):=[(121,K_i4 K)]
theorem K_jb(K:Nat):Env.Ok prog (tab (K_n7 K)):=(Env.cons (K_tb K) (Env.nil _))
noncomputable def K_n1 (K:Nat):List (Nat×RE):=[]
theorem K_je(K:Nat):REnv.Ok prog (tab (K_n1 K)):=(REnv.nil _)
noncomputable def K_29 (K:Nat) (a0:Option Addr) (a1:Option Addr) (a2:Option Addr) (w:World):Option ((Unit)×World):=
 (a0).bind fun p_1=>
 (ldS p_1 w).bind fun v_2=>
 if (((v_2.len:Nat):Int) == 0)=true then(some ((),w)) else((a0).bind fun p_3=>
 (ldS p_3 w).bind fun v_4=>
 if (((v_4.len:Nat):Int) != 5)=true then((a1).bind fun p_5=>
 (stC p_5 (.bool false) w).bind fun w_6=>
 some ((),w_6)) else((a0).bind fun p_7=>
 (ldS p_7 w).bind fun v_8=>
 bnd (K_7m K v_8 w) fun r_9 w_10=>
 (a2).bind fun p_11=>
 (ldS p_11 w_10).bind fun v_12=>
 bnd (bldS prog 23 2 #[(0,(.int .u8 (IntKind.u8.wrap (Int.fdiv r_9.1 (2 ^ 8))))),(1,(.int .u8 (IntKind.u8.wrap r_9.1)))] w_10) fun s_13 w_14=>
 bnd (apd prog 23 23 (.slice v_12.a v_12.len v_12.cap) (.slice s_13.a s_13.len s_13.cap) w_14) fun s_15 w_16=>
 (a2).bind fun p_17=>
 (stC p_17 (.slice s_15.a s_15.len s_15.cap) w_16).bind fun w_18=>
 (a0).bind fun p_19=>
 (stC p_19 (.slice none 0 0) w_18).bind fun w_20=>
 some ((),w_20)))
theorem K_9p:FunFacts prog 120 f120 (bodyOf f120) [(0,.ptr),(1,.ptr),(2,.ptr)] [(0,20)]:=⟨func120,by kernel_rfl,by kernel_rfl,by kernel_rfl,by kernel_rfl,by kernel_rfl⟩
theorem K_hm(K:Nat)(x:TT [(0,.ptr),(1,.ptr),(2,.ptr)])(w:World)(y:TR [])(w2:World)(h:K_29 K x.1 x.2.1 x.2.2.1 w=some (y,w2)):Calls prog 120 (encA [(0,.ptr),(1,.ptr),(2,.ptr)] x).toArray w (fun e w3=>e= .returned (resV (encR [] y))∧w3=w2):=
  K_h (O:=tabL []) (Lp:=[(0,.ptr),(1,.ptr),(2,.ptr)]) (Rt:=[]) (S:=(fun x w=>K_29 K x.1 x.2.1 x.2.2.1 w)) (K_jb K) (K_je K) rfl K_9p (Orc.nil _ _ _) (fun _ _=>by kernel_rfl) x w y w2 h
noncomputable def K_cj (K:Nat):CE:=funE [(0,.ptr),(1,.ptr),(2,.ptr)] [] (fun x w=>K_29 K x.1 x.2.1 x.2.2.1 w)
theorem K_m3(K:Nat):(K_cj K).Ok prog 120:=K_b K_9p fun x w y w2 h=>K_hm K x w y w2 h
noncomputable def K_74 (K:Nat):List (Nat×CE):=[(120,K_cj K)]
theorem K_45(K:Nat):Env.Ok prog (tab (K_74 K)):=(Env.cons (K_m3 K) (Env.nil _))
noncomputable def K_pj (K:Nat):List (Nat×RE):=[]
theorem K_43(K:Nat):REnv.Ok prog (tab (K_pj K)):=(REnv.nil _)
noncomputable def K_4h (K:Nat) (a19:Int) (a32:Bool) (w:World):Option ((Bool×Unit)×World):=
 if a32=true then(some ((true,()),w)) else(if (a19 == 9)=true then(some ((true,()),w)) else(if (a19 == 10)=true then(some ((true,()),w)) else(if (a19 == 13)=true then(some ((true,()),w)) else(some (((a19 == 45),()),w)))))
noncomputable def K_4g (K:Nat) (c9:Int) (w:World):Option ((Bool×Unit)×World):=
 if (decide (c9≥65))=true then(some (((decide (c9≤90)),()),w)) else(some ((false,()),w))
noncomputable def K_6v (K:Nat) (word5:Addr) (end7:Value) (c9:Int) (a19:Int) (w:World):Option ((Unit)×World):=
 bnd (K_4h K a19 (a19 == 32) w) fun y_9 w_10=>
 if y_9.1=true then(dyn (tab (K_74 K)) end7 [] w_10 fun v_11 w_12=>
 some ((),w_12)) else(bnd (K_4g K c9 w_10) fun y_13 w_14=>
 if y_13.1=true then((ldS word5 w_14).bind fun v_15=>
 bnd (bldS prog 23 1 #[(0,(.int .u8 (IntKind.u8.wrap (c9+32))))] w_14) fun s_16 w_17=>
 bnd (apd prog 23 23 (.slice v_15.a v_15.len v_15.cap) (.slice s_16.a s_16.len s_16.cap) w_17) fun s_18 w_19=>
 (stC word5 (.slice s_18.a s_18.len s_18.cap) w_19).bind fun w_20=>
 some ((),w_20)) else((ldS word5 w_14).bind fun v_21=>
 bnd (bldS prog 23 1 #[(0,(.int .u8 c9))] w_14) fun s_22 w_23=>
 bnd (apd prog 23 23 (.slice v_21.a v_21.len v_21.cap) (.slice s_22.a s_22.len s_22.cap) w_23) fun s_24 w_25=>
 (stC word5 (.slice s_24.a s_24.len s_24.cap) w_25).bind fun w_26=>
 some ((),w_26)))
noncomputable def K_3t (K:Nat) (rec:ByteArray→Addr→Addr→Addr→Value→Int→Int→World→Option ((Out (Unit) (Sl×Bool×Unit))×World)) (text0:ByteArray) (out4:Addr) (word5:Addr) (ok6:Addr) (end7:Value) (a12:Int) (a13:Int) (w:World):Option ((Out (Unit) (Sl×Bool×Unit))×World):=
 if (decide (a13<a12))=true then(if (0:Int)≤a13 then((text0[(Int.toNat a13)]?).bind fun b_8=>
 bnd (K_6v K word5 end7 ((b_8.toNat:Nat):Int) ((b_8.toNat:Nat):Int) w) fun y_27 w_28=>
 (ldB ok6 w_28).bind fun v_29=>
 if (!v_29)=true then(some (.ret (⟨none,0,0⟩,false,()),w_28)) else(rec text0 out4 word5 ok6 end7 a12 (IntKind.i64.wrap (a13+1)) w_28)) else none) else(some (.norm (),w))
noncomputable def K_n (K:Nat) (n:Nat):ByteArray→Addr→Addr→Addr→Value→Int→Int→World→Option ((Out (Unit) (Sl×Bool×Unit))×World):=iter (fun _ _ _ _ _ _ _ _=>none) (K_3t K) n
noncomputable def K_4x (K:Nat) (text0:ByteArray) (w:World):Option ((Sl×Bool×Unit)×World):=
 bnd (newB z23 23 w) fun out_1 w_2=>
 bnd (newB z23 23 w_2) fun word_3 w_4=>
 bnd (newB z4 4 w_4) fun ok_5 w_6=>
 (stC ok_5 (.bool true) w_6).bind fun w_7=>
 bnd (K_n K K text0 out_1 word_3 ok_5 (.func (.func 120) #[] #[(.pointer (some word_3)),(.pointer (some ok_5)),(.pointer (some out_1))]) ((text0.size:Nat):Int) 0 w_7) fun y_30 w_31=>
 (match y_30 with
 | .norm z_32n=>(dyn (tab (K_74 K)) (.func (.func 120) #[] #[(.pointer (some word_3)),(.pointer (some ok_5)),(.pointer (some out_1))]) [] w_31 fun v_33 w_34=>
 (ldS out_1 w_34.drew).bind fun v_35=>
 (ldB ok_5 w_34.drew).bind fun v_36=>
 some ((v_35,v_36,()),w_34.drew))
 | .ret z_32r=>(some ((z_32r.1,z_32r.2.1,()),w_31)))
theorem K_ka(K:Nat):StmtNOk prog [(19,.int .u8),(32,.bool)] [(32,.bool)] [(32,33),(34,38)] (fun x w=>K_4h K x.1 x.2.1 w) (cd (bodyOf f95) [1,1,1,1,1,0,1,0,0,1,1,0,0,1,0,1,1,0,0,1]):=
  K_y (O:=tabL []) (root:=(bodyOf f95)) (π:=[1,1,1,1,1,0,1,0,0,1,1,0,0,1,0,1,1,0,0,1]) (K_45 K) (K_43 K) rfl (Orc.nil _ _ _) (by kernel_rfl) (fun _ _=>by kernel_rfl)
noncomputable def K_53 (K:Nat):SE:=stmtN [(19,.int .u8),(32,.bool)] [(32,.bool)] [(32,33),(34,38)] (fun x w=>K_4h K x.1 x.2.1 w)
theorem K_6b(K:Nat)(R:Rg)(h:subRB [(32,33),(34,38)] R=true):(K_53 K).Ok prog R (cd (bodyOf f95) [1,1,1,1,1,0,1,0,0,1,1,0,0,1,0,1,1,0,0,1]):=K_2 (K_ka K) (K_1 h)
theorem K_km(K:Nat):StmtNOk prog [(9,.int .u8)] [(25,.bool)] [(20,26)] (fun x w=>K_4g K x.1 w) (cd (bodyOf f95) [1,1,1,1,1,0,1,0,0,1,1,0,0,1,0,1,1,0,1,1,0,0]):=
  K_y (O:=tabL []) (root:=(bodyOf f95)) (π:=[1,1,1,1,1,0,1,0,0,1,1,0,0,1,0,1,1,0,1,1,0,0]) (K_45 K) (K_43 K) rfl (Orc.nil _ _ _) (by kernel_rfl) (fun _ _=>by kernel_rfl)
noncomputable def K_55 (K:Nat):SE:=stmtN [(9,.int .u8)] [(25,.bool)] [(20,26)] (fun x w=>K_4g K x.1 w)
theorem K_6l(K:Nat)(R:Rg)(h:subRB [(20,26)] R=true):(K_55 K).Ok prog R (cd (bodyOf f95) [1,1,1,1,1,0,1,0,0,1,1,0,0,1,0,1,1,0,1,1,0,0]):=K_2 (K_km K) (K_1 h)
theorem K_jr(K:Nat):StmtNOk prog [(5,.addr),(7,.val),(9,.int .u8),(19,.int .u8)] [] [(9,10),(20,40)] (fun x w=>K_6v K x.1 x.2.1 x.2.2.1 x.2.2.2.1 w) (cd (bodyOf f95) [1,1,1,1,1,0,1,0,0,1,1,0,0,1,0,1,1]):=
  K_y (O:=tabL [([1,1,1,1,1,0,1,0,0,1,1,0,0,1,0,1,1,0,0,1],K_53 K),([1,1,1,1,1,0,1,0,0,1,1,0,0,1,0,1,1,0,1,1,0,0],K_55 K)]) (root:=(bodyOf f95)) (π:=[1,1,1,1,1,0,1,0,0,1,1,0,0,1,0,1,1]) (K_45 K) (K_43 K) rfl (Orc.cons (by kernel_rfl) (K_6b K [(9,10),(20,40)] (by kernel_rfl)) (Orc.cons (by kernel_rfl) (K_6l K [(9,10),(20,40)] (by kernel_rfl)) (Orc.nil _ _ _))) (by kernel_rfl) (fun _ _=>by kernel_rfl)
noncomputable def K_7j (K:Nat):SE:=stmtN [(5,.addr),(7,.val),(9,.int .u8),(19,.int .u8)] [] [(9,10),(20,40)] (fun x w=>K_6v K x.1 x.2.1 x.2.2.1 x.2.2.2.1 w)
theorem K_91(K:Nat)(R:Rg)(h:subRB [(9,10),(20,40)] R=true):(K_7j K).Ok prog R (cd (bodyOf f95) [1,1,1,1,1,0,1,0,0,1,1,0,0,1,0,1,1]):=K_2 (K_jr K) (K_1 h)
theorem K_ja(K:Nat)(n:Nat):StmtOk prog [(0,.str),(4,.addr),(5,.addr),(6,.addr),(7,.val),(12,.int .i64),(13,.int .i64)] [] [(2,.sl),(3,.bool)] [(2,4),(8,10),(13,43)] ((fun n x w=>K_n K n x.1 x.2.1 x.2.2.1 x.2.2.2.1 x.2.2.2.2.1 x.2.2.2.2.2.1 x.2.2.2.2.2.2.1 w) n) (.block 0 (.loop (cd (bodyOf f95) [1,1,1,1,1,0,1,0,0]))):=
  K_7g (O:=tabL [([1,1,1,1,1,0,1,0,0,1,1,0,0,1,0,1,1],K_7j K),([1,1,1,1,1,0,1,0,0,1,1,0,0,1,0,1,1,0,0,1],K_53 K),([1,1,1,1,1,0,1,0,0,1,1,0,0,1,0,1,1,0,1,1,0,0],K_55 K)]) (root:=(bodyOf f95)) (π:=[1,1,1,1,1,0,1,0,0]) (Li:=[(0,.str),(4,.addr),(5,.addr),(6,.addr),(7,.val),(12,.int .i64),(13,.int .i64)]) (Lo:=[]) (Lr:=[(2,.sl),(3,.bool)]) (S:=(fun n x w=>K_n K n x.1 x.2.1 x.2.2.1 x.2.2.2.1 x.2.2.2.2.1 x.2.2.2.2.2.1 x.2.2.2.2.2.2.1 w)) (K_45 K) (K_43 K) rfl (Orc.cons (by kernel_rfl) (K_91 K [(2,4),(8,10),(13,43)] (by kernel_rfl)) (Orc.cons (by kernel_rfl) (K_6b K [(2,4),(8,10),(13,43)] (by kernel_rfl)) (Orc.cons (by kernel_rfl) (K_6l K [(2,4),(8,10),(13,43)] (by kernel_rfl)) (Orc.nil _ _ _)))) (by kernel_rfl) (fun _ _=>by kernel_rfl) (fun _ _ _=>by kernel_rfl) n
noncomputable def K_bc (K:Nat):SE:=stmt [(0,.str),(4,.addr),(5,.addr),(6,.addr),(7,.val),(12,.int .i64),(13,.int .i64)] [] [(2,.sl),(3,.bool)] [(2,4),(8,10),(13,43)] (fun x w=>K_n K K x.1 x.2.1 x.2.2.1 x.2.2.2.1 x.2.2.2.2.1 x.2.2.2.2.2.1 x.2.2.2.2.2.2.1 w)
theorem K_g4(K:Nat)(R:Rg)(h:subRB [(2,4),(8,10),(13,43)] R=true):(K_bc K).Ok prog R (.block 0 (.loop (cd (bodyOf f95) [1,1,1,1,1,0,1,0,0]))):=K_5z (K_ja K K) (K_1 h)
theorem K_be:FunFacts prog 95 f95 (bodyOf f95) [(0,.str)] [(0,47)]:=⟨func95,by kernel_rfl,by kernel_rfl,by kernel_rfl,by kernel_rfl,by kernel_rfl⟩
theorem K_k2(K:Nat)(x:TT [(0,.str)])(w:World)(y:TR [.sl,.bool])(w2:World)(h:K_4x K x.1 w=some (y,w2)):Calls prog 95 (encA [(0,.str)] x).toArray w (fun e w3=>e= .returned (resV (encR [.sl,.bool] y))∧w3=w2):=
  K_h (O:=tabL [([1,1,1,1,1,0,1],K_bc K),([1,1,1,1,1,0,1,0,0,1,1,0,0,1,0,1,1],K_7j K),([1,1,1,1,1,0,1,0,0,1,1,0,0,1,0,1,1,0,0,1],K_53 K),([1,1,1,1,1,0,1,0,0,1,1,0,0,1,0,1,1,0,1,1,0,0],K_55 K)]) (Lp:=[(0,.str)]) (Rt:=[.sl,.bool]) (S:=(fun x w=>K_4x K x.1 w)) (K_45 K) (K_43 K) rfl K_be (Orc.cons (by kernel_rfl) (K_g4 K [(0,47)] (by kernel_rfl)) (Orc.cons (by kernel_rfl) (K_91 K [(0,47)] (by kernel_rfl)) (Orc.cons (by kernel_rfl) (K_6b K [(0,47)] (by kernel_rfl)) (Orc.cons (by kernel_rfl) (K_6l K [(0,47)] (by kernel_rfl)) (Orc.nil _ _ _))))) (fun _ _=>by kernel_rfl) x w y w2 h
noncomputable def K_e6 (K:Nat):CE:=funE [(0,.str)] [.sl,.bool] (fun x w=>K_4x K x.1 w)
theorem K_nx(K:Nat):(K_e6 K).Ok prog 95:=K_b K_be fun x w y w2 h=>K_k2 K x w y w2 h
noncomputable def K_sb (K:Nat):List (Nat×CE):=[]
theorem K_a2(K:Nat):Env.Ok prog (tab (K_sb K)):=(Env.nil _)
noncomputable def K_sr (K:Nat):List (Nat×RE):=[(124,K_8y K),(61,K_1d K)]
theorem K_a6(K:Nat):REnv.Ok prog (tab (K_sr K)):=(REnv.cons (K_cv K) (REnv.cons (K_1p K) (REnv.nil _)))
noncomputable def K_4w (K:Nat) (rec:Sl→Addr→Addr→Int→Int→Int→Sl→Int→Int→World→Option ((Unit)×World)) (b0:Sl) (a2:Addr) (s3:Addr) (j4:Int) (x5:Int) (a8:Int) (a13:Sl) (a14:Int) (a15:Int) (w:World):Option ((Unit)×World):=
 if (decide (a15<a14))=true then((a13.a).bind fun p_6=>
 if (0:Int)≤a15∧a15<((a13.len:Nat):Int) then((ldI .u8 (p_6.add ((Int.toNat a15)*1)) w).bind fun v_7=>
 if (0:Int)≤j4∧j4<((4:Nat):Int) then((ldI .u8 (s3.add ((Int.toNat j4)*1)) w).bind fun v_8=>
 (K_d K v_8 x5).bind fun r_9=>
 if (0:Int)≤j4∧j4<((4:Nat):Int) then((stC (s3.add ((Int.toNat j4)*1)) (.int .u8 (bits .xor .u8 r_9.1 v_7)) w).bind fun w_10=>
 rec b0 a2 s3 j4 x5 a8 a13 a14 (IntKind.i64.wrap (a15+1)) w_10) else none) else none) else none) else(some ((),w))
noncomputable def K_1l (K:Nat) (n:Nat):Sl→Addr→Addr→Int→Int→Int→Sl→Int→Int→World→Option ((Unit)×World):=iter (fun _ _ _ _ _ _ _ _ _ _=>none) (K_4w K) n
noncomputable def K_4l (K:Nat) (rec:Sl→Addr→Addr→Int→World→Option ((Unit)×World)) (b0:Sl) (a2:Addr) (s3:Addr) (a8:Int) (w:World):Option ((Unit)×World):=
 if (decide (a8<4))=true then((K_3p K a8).bind fun r_5=>
 bnd (K_1l K K b0 a2 s3 a8 r_5.1 a8 b0 ((b0.len:Nat):Int) 0 w) fun y_11 w_12=>
 rec b0 a2 s3 (IntKind.i64.wrap (a8+1)) w_12) else(some ((),w))
noncomputable def K_p (K:Nat) (n:Nat):Sl→Addr→Addr→Int→World→Option ((Unit)×World):=iter (fun _ _ _ _ _=>none) (K_4l K) n
noncomputable def K_2r (K:Nat) (b0:Sl) (w:World):Option (((Array Value)×Unit)×World):=
 bnd (newB z170 170 w) fun p_1 w_2=>
 bnd (newB z170 170 w_2) fun s_3 w_4=>
 bnd (K_p K K b0 p_1 s_3 0 w_4) fun y_13 w_14=>
 (ldA 4 s_3 w_14).bind fun v_15=>
 if (v_15).size=4 then((stA p_1 v_15 w_14).bind fun w_16=>
 (ldA 4 p_1 w_16).bind fun res_17=>
 some ((res_17,()),w_16)) else none
theorem K_mw(K:Nat)(n:Nat):StmtNOk prog [(0,.sl),(2,.addr),(3,.addr),(4,.int .i64),(5,.int .u8),(8,.int .i64),(13,.sl),(14,.int .i64),(15,.int .i64)] [] [(7,8),(15,29)] ((fun n x w=>K_1l K n x.1 x.2.1 x.2.2.1 x.2.2.2.1 x.2.2.2.2.1 x.2.2.2.2.2.1 x.2.2.2.2.2.2.1 x.2.2.2.2.2.2.2.1 x.2.2.2.2.2.2.2.2.1 w) n) (.block 2 (.loop (cd (bodyOf f122) [1,1,0,1,0,0,1,1,0,0,1,1,1,0,0]))):=
  K_9 (O:=tabL []) (root:=(bodyOf f122)) (π:=[1,1,0,1,0,0,1,1,0,0,1,1,1,0,0]) (Li:=[(0,.sl),(2,.addr),(3,.addr),(4,.int .i64),(5,.int .u8),(8,.int .i64),(13,.sl),(14,.int .i64),(15,.int .i64)]) (Lo:=[]) (S:=(fun n x w=>K_1l K n x.1 x.2.1 x.2.2.1 x.2.2.2.1 x.2.2.2.2.1 x.2.2.2.2.2.1 x.2.2.2.2.2.2.1 x.2.2.2.2.2.2.2.1 x.2.2.2.2.2.2.2.2.1 w)) (K_a2 K) (K_a6 K) rfl (Orc.nil _ _ _) (by kernel_rfl) (fun _ _=>by kernel_rfl) (fun _ _ _=>by kernel_rfl) n
noncomputable def K_8q (K:Nat):SE:=stmtN [(0,.sl),(2,.addr),(3,.addr),(4,.int .i64),(5,.int .u8),(8,.int .i64),(13,.sl),(14,.int .i64),(15,.int .i64)] [] [(7,8),(15,29)] (fun x w=>K_1l K K x.1 x.2.1 x.2.2.1 x.2.2.2.1 x.2.2.2.2.1 x.2.2.2.2.2.1 x.2.2.2.2.2.2.1 x.2.2.2.2.2.2.2.1 x.2.2.2.2.2.2.2.2.1 w)
theorem K_ak(K:Nat)(R:Rg)(h:subRB [(7,8),(15,29)] R=true):(K_8q K).Ok prog R (.block 2 (.loop (cd (bodyOf f122) [1,1,0,1,0,0,1,1,0,0,1,1,1,0,0]))):=K_2 (K_mw K K) (K_1 h)
theorem K_n4(K:Nat)(n:Nat):StmtNOk prog [(0,.sl),(2,.addr),(3,.addr),(8,.int .i64)] [] [(4,6),(7,30)] ((fun n x w=>K_p K n x.1 x.2.1 x.2.2.1 x.2.2.2.1 w) n) (.block 0 (.loop (cd (bodyOf f122) [1,1,0,1,0,0]))):=
  K_9 (O:=tabL [([1,1,0,1,0,0,1,1,0,0,1,1,1],K_8q K)]) (root:=(bodyOf f122)) (π:=[1,1,0,1,0,0]) (Li:=[(0,.sl),(2,.addr),(3,.addr),(8,.int .i64)]) (Lo:=[]) (S:=(fun n x w=>K_p K n x.1 x.2.1 x.2.2.1 x.2.2.2.1 w)) (K_a2 K) (K_a6 K) rfl (Orc.cons (by kernel_rfl) (K_ak K [(4,6),(7,30)] (by kernel_rfl)) (Orc.nil _ _ _)) (by kernel_rfl) (fun _ _=>by kernel_rfl) (fun _ _ _=>by kernel_rfl) n
noncomputable def K_d5 (K:Nat):SE:=stmtN [(0,.sl),(2,.addr),(3,.addr),(8,.int .i64)] [] [(4,6),(7,30)] (fun x w=>K_p K K x.1 x.2.1 x.2.2.1 x.2.2.2.1 w)
theorem K_ik(K:Nat)(R:Rg)(h:subRB [(4,6),(7,30)] R=true):(K_d5 K).Ok prog R (.block 0 (.loop (cd (bodyOf f122) [1,1,0,1,0,0]))):=K_2 (K_n4 K K) (K_1 h)
theorem K_d4:FunFacts prog 122 f122 (bodyOf f122) [(0,.sl)] [(0,31)]:=⟨func122,by kernel_rfl,by kernel_rfl,by kernel_rfl,by kernel_rfl,by kernel_rfl⟩
theorem K_nm(K:Nat)(x:TT [(0,.sl)])(w:World)(y:TR [.agg])(w2:World)(h:K_2r K x.1 w=some (y,w2)):Calls prog 122 (encA [(0,.sl)] x).toArray w (fun e w3=>e= .returned (resV (encR [.agg] y))∧w3=w2):=
  K_h (O:=tabL [([1,1,0,1],K_d5 K),([1,1,0,1,0,0,1,1,0,0,1,1,1],K_8q K)]) (Lp:=[(0,.sl)]) (Rt:=[.agg]) (S:=(fun x w=>K_2r K x.1 w)) (K_a2 K) (K_a6 K) rfl K_d4 (Orc.cons (by kernel_rfl) (K_ik K [(0,31)] (by kernel_rfl)) (Orc.cons (by kernel_rfl) (K_ak K [(0,31)] (by kernel_rfl)) (Orc.nil _ _ _))) (fun _ _=>by kernel_rfl) x w y w2 h
noncomputable def K_gd (K:Nat):CE:=funE [(0,.sl)] [.agg] (fun x w=>K_2r K x.1 w)
theorem K_qy(K:Nat):(K_gd K).Ok prog 122:=K_b K_d4 fun x w y w2 h=>K_nm K x w y w2 h
noncomputable def K_qv (K:Nat):List (Nat×RE):=[(61,K_1d K)]
theorem K_ek(K:Nat):REnv.Ok prog (tab (K_qv K)):=(REnv.cons (K_1p K) (REnv.nil _))
noncomputable def K_40 (K:Nat) (rec:Int→Int→Int→Option (Out (Int×Unit) (Int×Unit))) (b0:Int) (v3:Int) (a4:Int):Option (Out (Int×Unit) (Int×Unit)):=
 if (decide (a4<7))=true then((K_d K b0 b0).bind fun r_1=>
 (K_d K v3 r_1.1).bind fun r_2=>
 rec r_1.1 r_2.1 (IntKind.i64.wrap (a4+1))) else(some (.norm (v3,())))
noncomputable def K_1n (K:Nat) (n:Nat):Int→Int→Int→Option (Out (Int×Unit) (Int×Unit)):=iter (fun _ _ _=>none) (K_40 K) n
noncomputable def K_47 (K:Nat) (b0:Int):Option (Int×Unit):=
 (K_1n K K b0 1 0).bind fun y_3=>
 (match y_3 with
 | .norm z_4n=>(some (z_4n.1,()))
 | .ret z_4r=>(some (z_4r.1,())))
theorem K_ld(K:Nat)(n:Nat):StmtQOk prog [(0,.int .u8),(3,.int .u8),(4,.int .i64)] [(3,.int .u8)] [(2,.int .u8)] [(0,1),(3,13)] ((fun n x w=>K_1n K n x.1 x.2.1 x.2.2.1) n) (.block 0 (.loop (cd (bodyOf f87) [1,1,0,1,0,0]))):=
  K_l1 (O:=tabL []) (root:=(bodyOf f87)) (π:=[1,1,0,1,0,0]) (Li:=[(0,.int .u8),(3,.int .u8),(4,.int .i64)]) (Lo:=[(3,.int .u8)]) (Lr:=[(2,.int .u8)]) (S:=(fun n x w=>K_1n K n x.1 x.2.1 x.2.2.1)) (K_ek K) (OrcQ.nil _ _ _) (by kernel_rfl) (fun _ _=>by kernel_rfl) (fun _ _ _=>by kernel_rfl) n
noncomputable def K_c1 (K:Nat):SQ:=stmtQ [(0,.int .u8),(3,.int .u8),(4,.int .i64)] [(3,.int .u8)] [(2,.int .u8)] [(0,1),(3,13)] (fun x w=>K_1n K K x.1 x.2.1 x.2.2.1)
theorem K_hg(K:Nat)(R:Rg)(h:subRB [(0,1),(3,13)] R=true):(K_c1 K).Ok prog R (.block 0 (.loop (cd (bodyOf f87) [1,1,0,1,0,0]))):=K_9b (K_ld K K) (K_1 h)
theorem K_cu:FunFacts prog 87 f87 (bodyOf f87) [(0,.int .u8)] [(0,14)]:=⟨func87,by kernel_rfl,by kernel_rfl,by kernel_rfl,by kernel_rfl,by kernel_rfl⟩
theorem K_lc(K:Nat)(x:TT [(0,.int .u8)])(w:World)(y:TR [.int .u8])(h:K_47 K x.1=some y):Calls prog 87 (encA [(0,.int .u8)] x).toArray w (fun e w3=>e= .returned (resV (encR [.int .u8] y))∧w3=w):=
  K_6p (O:=tabL [([1,1,0,1],K_c1 K)]) (Lp:=[(0,.int .u8)]) (Rt:=[.int .u8]) (S:=(fun x w=>K_47 K x.1)) (K_ek K) K_cu (OrcQ.cons (by kernel_rfl) (K_hg K [(0,14)] (by kernel_rfl)) (OrcQ.nil _ _ _)) (fun _ _=>by kernel_rfl) x w y h
noncomputable def K_a7 (K:Nat):RE:=funR [(0,.int .u8)] [.int .u8] (fun x w=>K_47 K x.1)
theorem K_f2(K:Nat):(K_a7 K).Ok prog 87:=K_6o K_cu fun x w y h=>K_lc K x w y h
noncomputable def K_vj (K:Nat):List (Nat×RE):=[(87,K_a7 K),(61,K_1d K)]
theorem K_s2(K:Nat):REnv.Ok prog (tab (K_vj K)):=(REnv.cons (K_f2 K) (REnv.cons (K_1p K) (REnv.nil _)))
noncomputable def K_4d (K:Nat) (a0:Int) (b1:Int):Option (Int×Unit):=
 (K_47 K b1).bind fun r_1=>
 (K_d K a0 r_1.1).bind fun r_2=>
 some (r_2.1,())
theorem K_f5:FunFacts prog 123 f123 (bodyOf f123) [(0,.int .u8),(1,.int .u8)] [(0,9)]:=⟨func123,by kernel_rfl,by kernel_rfl,by kernel_rfl,by kernel_rfl,by kernel_rfl⟩
theorem K_q6(K:Nat)(x:TT [(0,.int .u8),(1,.int .u8)])(w:World)(y:TR [.int .u8])(h:K_4d K x.1 x.2.1=some y):Calls prog 123 (encA [(0,.int .u8),(1,.int .u8)] x).toArray w (fun e w3=>e= .returned (resV (encR [.int .u8] y))∧w3=w):=
  K_6p (O:=tabL []) (Lp:=[(0,.int .u8),(1,.int .u8)]) (Rt:=[.int .u8]) (S:=(fun x w=>K_4d K x.1 x.2.1)) (K_s2 K) K_f5 (OrcQ.nil _ _ _) (fun _ _=>by kernel_rfl) x w y h
noncomputable def K_jp (K:Nat):RE:=funR [(0,.int .u8),(1,.int .u8)] [.int .u8] (fun x w=>K_4d K x.1 x.2.1)
theorem K_u1(K:Nat):(K_jp K).Ok prog 123:=K_6o K_f5 fun x w y h=>K_q6 K x w y h
end Go.Sh

namespace Go.Sh
open Go.Fw Go.Proofs.Tryd
noncomputable def K_k (K:Nat):List (Nat×CE):=[(122,K_gd K),(61,ceR (K_1d K)),(80,K_3h)]
theorem K_j(K:Nat):Env.Ok prog (tab (K_k K)):=(Env.cons (K_qy K) (Env.cons (K_164 (K_1p K)) (Env.cons (K_5k) (Env.nil _))))
noncomputable def K_pq (K:Nat):List (Nat×RE):=[(123,K_jp K),(124,K_8y K)]
theorem K_i(K:Nat):REnv.Ok prog (tab (K_pq K)):=(REnv.cons (K_u1 K) (REnv.cons (K_cv K) (REnv.nil _)))
noncomputable def K_4s (K:Nat) (s5:Addr) (times7:Value) (w:World):Option ((Int×Unit)×World):=
 (ldI .u8 (s5.add (0*1)) w.drew).bind fun v_9=>
 (ldI .u8 (s5.add (2*1)) w.drew).bind fun v_10=>
 (ldI .u8 (s5.add (1*1)) w.drew).bind fun v_11=>
 (ldI .u8 (s5.add (1*1)) w.drew).bind fun v_12=>
 dyn (tab (K_k K)) times7 [(.int .u8 v_9),(.int .u8 v_10)] w.drew fun v_13 w_14=>
 (asI .u8 v_13).bind fun v_15=>
 (ldI .u8 (s5.add (1*1)) w_14).bind fun v_16=>
 sameK (.int .u8 v_12) (.int .u8 v_16) ((ldI .u8 (s5.add (1*1)) w_14).bind fun v_17=>
 sameK (.int .u8 v_11) (.int .u8 v_17) ((ldI .u8 (s5.add (2*1)) w_14).bind fun v_18=>
 sameK (.int .u8 v_10) (.int .u8 v_18) ((ldI .u8 (s5.add (0*1)) w_14).bind fun v_19=>
 sameK (.int .u8 v_9) (.int .u8 v_19) (dyn (tab (K_k K)) times7 [(.int .u8 v_11),(.int .u8 v_12)] w_14 fun v_20 w_21=>
 (asI .u8 v_20).bind fun v_22=>
 (ldI .u8 (s5.add (1*1)) w_21).bind fun v_23=>
 sameK (.int .u8 v_12) (.int .u8 v_23) ((ldI .u8 (s5.add (1*1)) w_21).bind fun v_24=>
 sameK (.int .u8 v_11) (.int .u8 v_24) ((ldI .u8 (s5.add (2*1)) w_21).bind fun v_25=>
 sameK (.int .u8 v_10) (.int .u8 v_25) ((ldI .u8 (s5.add (0*1)) w_21).bind fun v_26=>
 sameK (.int .u8 v_9) (.int .u8 v_26) (some (((bits .xor .u8 v_15 v_22),()),w_21)))))))))
noncomputable def K_4k (K:Nat) (s5:Addr) (w:World):Option ((Bool×Unit)×World):=
 (ldI .u8 (s5.add (0*1)) w).bind fun v_29=>
 if (v_29 == 0)=true then(some ((true,()),w)) else((ldI .u8 (s5.add (1*1)) w).bind fun v_30=>
 some (((v_30 == 0),()),w))
noncomputable def K_3b (K:Nat) (s5:Addr) (times7:Value) (delta8:Int) (w:World):Option ((Int×Unit)×World):=
 (ldI .u8 (s5.add (0*1)) w.drew).bind fun v_38=>
 (ldI .u8 (s5.add (3*1)) w.drew).bind fun v_39=>
 (ldI .u8 (s5.add (1*1)) w.drew).bind fun v_40=>
 (ldI .u8 (s5.add (2*1)) w.drew).bind fun v_41=>
 dyn (tab (K_k K)) times7 [(.int .u8 v_38),(.int .u8 v_39)] w.drew fun v_42 w_43=>
 (asI .u8 v_42).bind fun v_44=>
 (ldI .u8 (s5.add (2*1)) w_43).bind fun v_45=>
 sameK (.int .u8 v_41) (.int .u8 v_45) ((ldI .u8 (s5.add (1*1)) w_43).bind fun v_46=>
 sameK (.int .u8 v_40) (.int .u8 v_46) ((ldI .u8 (s5.add (3*1)) w_43).bind fun v_47=>
 sameK (.int .u8 v_39) (.int .u8 v_47) ((ldI .u8 (s5.add (0*1)) w_43).bind fun v_48=>
 sameK (.int .u8 v_38) (.int .u8 v_48) (dyn (tab (K_k K)) times7 [(.int .u8 v_40),(.int .u8 v_41)] w_43 fun v_49 w_50=>
 (asI .u8 v_49).bind fun v_51=>
 (ldI .u8 (s5.add (2*1)) w_50).bind fun v_52=>
 sameK (.int .u8 v_41) (.int .u8 v_52) ((ldI .u8 (s5.add (1*1)) w_50).bind fun v_53=>
 sameK (.int .u8 v_40) (.int .u8 v_53) ((ldI .u8 (s5.add (3*1)) w_50).bind fun v_54=>
 sameK (.int .u8 v_39) (.int .u8 v_54) ((ldI .u8 (s5.add (0*1)) w_50).bind fun v_55=>
 sameK (.int .u8 v_38) (.int .u8 v_55) ((K_4d K (bits .xor .u8 v_44 v_51) delta8).bind fun r_56=>
 (ldI .u8 (s5.add (2*1)) w_50).bind fun v_57=>
 sameK (.int .u8 v_41) (.int .u8 v_57) ((ldI .u8 (s5.add (1*1)) w_50).bind fun v_58=>
 sameK (.int .u8 v_40) (.int .u8 v_58) ((ldI .u8 (s5.add (3*1)) w_50).bind fun v_59=>
 sameK (.int .u8 v_39) (.int .u8 v_59) ((ldI .u8 (s5.add (0*1)) w_50).bind fun v_60=>
 sameK (.int .u8 v_38) (.int .u8 v_60) (some ((r_56.1,()),w_50)))))))))))))
noncomputable def K_39 (K:Nat) (s5:Addr) (times7:Value) (delta8:Int) (w:World):Option ((Int×Unit)×World):=
 (ldI .u8 (s5.add (1*1)) w.drew).bind fun v_63=>
 (ldI .u8 (s5.add (3*1)) w.drew).bind fun v_64=>
 (ldI .u8 (s5.add (2*1)) w.drew).bind fun v_65=>
 (ldI .u8 (s5.add (2*1)) w.drew).bind fun v_66=>
 dyn (tab (K_k K)) times7 [(.int .u8 v_63),(.int .u8 v_64)] w.drew fun v_67 w_68=>
 (asI .u8 v_67).bind fun v_69=>
 (ldI .u8 (s5.add (2*1)) w_68).bind fun v_70=>
 sameK (.int .u8 v_66) (.int .u8 v_70) ((ldI .u8 (s5.add (2*1)) w_68).bind fun v_71=>
 sameK (.int .u8 v_65) (.int .u8 v_71) ((ldI .u8 (s5.add (3*1)) w_68).bind fun v_72=>
 sameK (.int .u8 v_64) (.int .u8 v_72) ((ldI .u8 (s5.add (1*1)) w_68).bind fun v_73=>
 sameK (.int .u8 v_63) (.int .u8 v_73) (dyn (tab (K_k K)) times7 [(.int .u8 v_65),(.int .u8 v_66)] w_68 fun v_74 w_75=>
 (asI .u8 v_74).bind fun v_76=>
 (ldI .u8 (s5.add (2*1)) w_75).bind fun v_77=>
 sameK (.int .u8 v_66) (.int .u8 v_77) ((ldI .u8 (s5.add (2*1)) w_75).bind fun v_78=>
 sameK (.int .u8 v_65) (.int .u8 v_78) ((ldI .u8 (s5.add (3*1)) w_75).bind fun v_79=>
 sameK (.int .u8 v_64) (.int .u8 v_79) ((ldI .u8 (s5.add (1*1)) w_75).bind fun v_80=>
 sameK (.int .u8 v_63) (.int .u8 v_80) ((K_4d K (bits .xor .u8 v_69 v_76) delta8).bind fun r_81=>
 (ldI .u8 (s5.add (2*1)) w_75).bind fun v_82=>
 sameK (.int .u8 v_66) (.int .u8 v_82) ((ldI .u8 (s5.add (2*1)) w_75).bind fun v_83=>
 sameK (.int .u8 v_65) (.int .u8 v_83) ((ldI .u8 (s5.add (3*1)) w_75).bind fun v_84=>
 sameK (.int .u8 v_64) (.int .u8 v_84) ((ldI .u8 (s5.add (1*1)) w_75).bind fun v_85=>
 sameK (.int .u8 v_63) (.int .u8 v_85) (some ((r_81.1,()),w_75)))))))))))))
noncomputable def K_3n (K:Nat) (rec:Sl→Addr→Sl→Value→Int→Int→Int→Int→World→Option ((Sl×Unit)×World)) (b0:Sl) (s5:Addr) (places6:Sl) (times7:Value) (one9:Int) (two10:Int) (a85:Int) (a86:Int) (w:World):Option ((Sl×Unit)×World):=
 if (decide (a86<a85))=true then((K_3p K a86).bind fun r_88=>
 dyn (tab (K_k K)) times7 [(.int .u8 r_88.1),(.int .u8 r_88.1)] w fun v_89 w_90=>
 (asI .u8 v_89).bind fun v_91=>
 dyn (tab (K_k K)) times7 [(.int .u8 one9),(.int .u8 r_88.1)] w_90 fun v_92 w_93=>
 (asI .u8 v_92).bind fun v_94=>
 if ((bits .xor .u8 (bits .xor .u8 v_91 v_94) two10) == 0)=true then(bnd (bldS prog 23 1 #[(0,(.int .u8 r_88.1))] w_93) fun s_95 w_96=>
 bnd (apd prog 23 23 (.slice places6.a places6.len places6.cap) (.slice s_95.a s_95.len s_95.cap) w_96) fun s_97 w_98=>
 rec b0 s5 s_97 times7 one9 two10 a85 (IntKind.i64.wrap (a86+1)) w_98) else(rec b0 s5 places6 times7 one9 two10 a85 (IntKind.i64.wrap (a86+1)) w_93)) else(some ((places6,()),w))
noncomputable def K_15 (K:Nat) (n:Nat):Sl→Addr→Sl→Value→Int→Int→Int→Int→World→Option ((Sl×Unit)×World):=iter (fun _ _ _ _ _ _ _ _ _=>none) (K_3n K) n
noncomputable def K_70 (K:Nat) (b0:Sl) (s5:Addr) (places6:Sl) (times7:Value) (delta8:Int) (a39:Bool) (w:World):Option ((Out (Sl×Unit) (Sl×Int×Bool×Unit))×World):=
 if a39=true then(bnd (K_4k K s5 w) fun y_31 w_32=>
 if y_31.1=true then(some (.ret (⟨none,0,0⟩,0,false,()),w_32)) else((ldI .u8 (s5.add (1*1)) w_32).bind fun v_33=>
 (ldI .u8 (s5.add (0*1)) w_32).bind fun v_34=>
 (K_4d K v_33 v_34).bind fun r_35=>
 bnd (bldS prog 23 1 #[(0,(.int .u8 r_35.1))] w_32) fun s_36 w_37=>
 some (.norm (s_36,()),w_37))) else(bnd (K_3b K s5 times7 delta8 w) fun y_61 w_62=>
 bnd (K_39 K s5 times7 delta8 w_62) fun y_86 w_87=>
 bnd (K_15 K K b0 s5 places6 times7 y_61.1 y_86.1 ((b0.len:Nat):Int) 0 w_87) fun y_99 w_100=>
 if (((y_99.1.len:Nat):Int) != 2)=true then(some (.ret (⟨none,0,0⟩,0,false,()),w_100)) else(some (.norm (y_99.1,()),w_100)))
noncomputable def K_6s (K:Nat) (s5:Addr) (places6:Sl) (times7:Value) (i14:Int) (x15:Int) (v16:Int) (w:World):Option ((Int×Unit)×World):=
 (places6.a).bind fun p_109=>
 if (0:Int)≤(IntKind.i64.wrap (1 - i14))∧(IntKind.i64.wrap (1 - i14))<((places6.len:Nat):Int) then((places6.a).bind fun p_110=>
 if (0:Int)≤(IntKind.i64.wrap (1 - i14))∧(IntKind.i64.wrap (1 - i14))<((places6.len:Nat):Int) then((ldI .u8 (s5.add (1*1)) w.drew).bind fun v_111=>
 (ldI .u8 (s5.add (0*1)) w.drew).bind fun v_112=>
 (ldI .u8 (p_109.add ((Int.toNat (IntKind.i64.wrap (1 - i14)))*1)) w.drew).bind fun v_113=>
 (ldI .u8 (p_110.add ((Int.toNat (IntKind.i64.wrap (1 - i14)))*1)) w.drew).bind fun v_114=>
 dyn (tab (K_k K)) times7 [(.int .u8 v_112),(.int .u8 v_113)] w.drew fun v_115 w_116=>
 (asI .u8 v_115).bind fun v_117=>
 (ldI .u8 (p_110.add ((Int.toNat (IntKind.i64.wrap (1 - i14)))*1)) w_116).bind fun v_118=>
 sameK (.int .u8 v_114) (.int .u8 v_118) ((ldI .u8 (p_109.add ((Int.toNat (IntKind.i64.wrap (1 - i14)))*1)) w_116).bind fun v_119=>
 sameK (.int .u8 v_113) (.int .u8 v_119) ((ldI .u8 (s5.add (0*1)) w_116).bind fun v_120=>
 sameK (.int .u8 v_112) (.int .u8 v_120) ((ldI .u8 (s5.add (1*1)) w_116).bind fun v_121=>
 sameK (.int .u8 v_111) (.int .u8 v_121) ((K_4d K (bits .xor .u8 v_111 v_117) (bits .xor .u8 x15 v_114)).bind fun r_122=>
 (ldI .u8 (p_110.add ((Int.toNat (IntKind.i64.wrap (1 - i14)))*1)) w_116).bind fun v_123=>
 sameK (.int .u8 v_114) (.int .u8 v_123) ((ldI .u8 (p_109.add ((Int.toNat (IntKind.i64.wrap (1 - i14)))*1)) w_116).bind fun v_124=>
 sameK (.int .u8 v_113) (.int .u8 v_124) ((ldI .u8 (s5.add (0*1)) w_116).bind fun v_125=>
 sameK (.int .u8 v_112) (.int .u8 v_125) ((ldI .u8 (s5.add (1*1)) w_116).bind fun v_126=>
 sameK (.int .u8 v_111) (.int .u8 v_126) (some ((r_122.1,()),w_116)))))))))) else none) else none
noncomputable def K_25 (K:Nat) (s5:Addr) (places6:Sl) (times7:Value) (i14:Int) (x15:Int) (v16:Int) (a124:Bool) (w:World):Option ((Int×Unit)×World):=
 if a124=true then(bnd (K_6s K s5 places6 times7 i14 x15 v16 w) fun y_127 w_128=>
 some ((y_127.1,()),w_128)) else(some ((v16,()),w))
noncomputable def K_3o (K:Nat) (rec:Addr→Sl→Value→Sl→Int→Int→Int→Sl→Int→Int→Int→Int→World→Option ((Int×Unit)×World)) (s5:Addr) (places6:Sl) (times7:Value) (out13:Sl) (x15:Int) (v16:Int) (at17:Int) (a113:Sl) (a114:Int) (a115:Int) (a146:Int) (a147:Int) (w:World):Option ((Int×Unit)×World):=
 if (decide (a147<a146))=true then((K_3p K (IntKind.i64.wrap ((IntKind.i64.wrap (((out13.len:Nat):Int) - 1)) - a147))).bind fun r_131=>
 if (r_131.1 == x15)=true then(rec s5 places6 times7 out13 x15 v16 a147 a113 a114 a115 a146 (IntKind.i64.wrap (a147+1)) w) else(rec s5 places6 times7 out13 x15 v16 at17 a113 a114 a115 a146 (IntKind.i64.wrap (a147+1)) w)) else(some ((at17,()),w))
noncomputable def K_1i (K:Nat) (n:Nat):Addr→Sl→Value→Sl→Int→Int→Int→Sl→Int→Int→Int→Int→World→Option ((Int×Unit)×World):=iter (fun _ _ _ _ _ _ _ _ _ _ _ _ _=>none) (K_3o K) n
noncomputable def K_3q (K:Nat) (rec:Addr→Sl→Value→Sl→Sl→Int→Int→World→Option ((Out (Unit) (Sl×Int×Bool×Unit))×World)) (s5:Addr) (places6:Sl) (times7:Value) (out13:Sl) (a113:Sl) (a114:Int) (a115:Int) (w:World):Option ((Out (Unit) (Sl×Int×Bool×Unit))×World):=
 if (decide (a115<a114))=true then((a113.a).bind fun p_106=>
 if (0:Int)≤a115∧a115<((a113.len:Nat):Int) then((ldI .u8 (p_106.add ((Int.toNat a115)*1)) w).bind fun v_107=>
 (ldI .u8 (s5.add (0*1)) w).bind fun v_108=>
 bnd (K_25 K s5 places6 times7 a115 v_107 v_108 (((places6.len:Nat):Int) == 2) w) fun y_129 w_130=>
 bnd (K_1i K K s5 places6 times7 out13 v_107 y_129.1 (-1) a113 a114 a115 ((out13.len:Nat):Int) 0 w_130) fun y_132 w_133=>
 if (decide (y_132.1<0))=true then(some (.ret (⟨none,0,0⟩,0,false,()),w_133)) else((out13.a).bind fun p_134=>
 if (0:Int)≤y_132.1∧y_132.1<((out13.len:Nat):Int) then((ldI .u8 (p_134.add ((Int.toNat y_132.1)*1)) w_133).bind fun v_135=>
 (out13.a).bind fun p_136=>
 if (0:Int)≤y_132.1∧y_132.1<((out13.len:Nat):Int) then((stC (p_136.add ((Int.toNat y_132.1)*1)) (.int .u8 (bits .xor .u8 v_135 y_129.1)) w_133).bind fun w_137=>
 rec s5 places6 times7 out13 a113 a114 (IntKind.i64.wrap (a115+1)) w_137) else none) else none)) else none) else(some (.norm (),w))
noncomputable def K_a (K:Nat) (n:Nat):Addr→Sl→Value→Sl→Sl→Int→Int→World→Option ((Out (Unit) (Sl×Int×Bool×Unit))×World):=iter (fun _ _ _ _ _ _ _ _=>none) (K_3q K) n
noncomputable def K_51 (K:Nat) (b0:Sl) (w:World):Option ((Sl×Int×Bool×Unit)×World):=
 bnd (K_2r K b0 w) fun r_1 w_2=>
 bnd (newB z170 170 w_2) fun s_3 w_4=>
 if (r_1.1).size=4 then((stA s_3 r_1.1 w_4).bind fun w_5=>
 (ldA 4 s_3 w_5).bind fun v_6=>
 (prog.built 170 []).bind fun cs_7=>
 (eqA prog 170 v_6 cs_7).bind fun b_8=>
 if b_8=true then(some ((b0,0,true,()),w_5)) else(bnd (K_4s K s_3 (.func (.func 61) #[] #[]) w_5) fun y_27 w_28=>
 bnd (K_70 K b0 s_3 ⟨none,0,0⟩ (.func (.func 61) #[] #[]) y_27.1 (y_27.1 == 0) w_28) fun y_101 w_102=>
 (match y_101 with
 | .norm z_103n=>(bnd (K_e b0 w_102) fun r_104 w_105=>
 bnd (K_a K K s_3 z_103n.1 (.func (.func 61) #[] #[]) r_104.1 z_103n.1 ((z_103n.1.len:Nat):Int) 0 w_105) fun y_138 w_139=>
 (match y_138 with
 | .norm z_140n=>((prog.built 170 []).bind fun cs_141=>
 bnd (K_2r K r_104.1 w_139.drew) fun r_142 w_143=>
 (eqA prog 170 r_142.1 cs_141).bind fun b_144=>
 some ((r_104.1,((z_103n.1.len:Nat):Int),b_144,()),w_143))
 | .ret z_140r=>(some ((z_140r.1,z_140r.2.1,z_140r.2.2.1,()),w_139))))
 | .ret z_103r=>(some ((z_103r.1,z_103r.2.1,z_103r.2.2.1,()),w_102))))) else none
theorem K_j9(K:Nat):StmtNOk prog [(5,.addr),(7,.val)] [(8,.int .u8)] [(8,9),(25,38)] (fun x w=>K_4s K x.1 x.2.1 w) (cd (bodyOf f96) [1,1,1,1,1,0]):=
  K_87 (K_j K) (K_i K) rfl (fun _ _=>by kernel_rfl)
noncomputable def K_b8 (K:Nat):SE:=stmtN [(5,.addr),(7,.val)] [(8,.int .u8)] [(8,9),(25,38)] (fun x w=>K_4s K x.1 x.2.1 w)
theorem K_gf(K:Nat)(R:Rg)(h:subRB [(8,9),(25,38)] R=true):(K_b8 K).Ok prog R (cd (bodyOf f96) [1,1,1,1,1,0]):=K_2 (K_j9 K) (K_1 h)
theorem K_kb(K:Nat):StmtNOk prog [(5,.addr)] [(47,.bool)] [(40,48)] (fun x w=>K_4k K x.1 w) (cd (bodyOf f96) [1,1,1,1,1,1,0,1,0,0,0]):=
  K_y (O:=tabL []) (root:=(bodyOf f96)) (π:=[1,1,1,1,1,1,0,1,0,0,0]) (K_j K) (K_i K) rfl (Orc.nil _ _ _) (by kernel_rfl) (fun _ _=>by kernel_rfl)
noncomputable def K_7d (K:Nat):SE:=stmtN [(5,.addr)] [(47,.bool)] [(40,48)] (fun x w=>K_4k K x.1 w)
theorem K_96(K:Nat)(R:Rg)(h:subRB [(40,48)] R=true):(K_7d K).Ok prog R (cd (bodyOf f96) [1,1,1,1,1,1,0,1,0,0,0]):=K_2 (K_kb K) (K_1 h)
theorem K_k6(K:Nat):StmtNOk prog [(5,.addr),(7,.val),(8,.int .u8)] [(9,.int .u8)] [(9,10),(54,69)] (fun x w=>K_3b K x.1 x.2.1 x.2.2.1 w) (cd (bodyOf f96) [1,1,1,1,1,1,0,1,1,0]):=
  K_87 (K_j K) (K_i K) rfl (fun _ _=>by kernel_rfl)
noncomputable def K_79 (K:Nat):SE:=stmtN [(5,.addr),(7,.val),(8,.int .u8)] [(9,.int .u8)] [(9,10),(54,69)] (fun x w=>K_3b K x.1 x.2.1 x.2.2.1 w)
theorem K_94(K:Nat)(R:Rg)(h:subRB [(9,10),(54,69)] R=true):(K_79 K).Ok prog R (cd (bodyOf f96) [1,1,1,1,1,1,0,1,1,0]):=K_2 (K_k6 K) (K_1 h)
theorem K_kn(K:Nat):StmtNOk prog [(5,.addr),(7,.val),(8,.int .u8)] [(10,.int .u8)] [(10,11),(69,84)] (fun x w=>K_39 K x.1 x.2.1 x.2.2.1 w) (cd (bodyOf f96) [1,1,1,1,1,1,0,1,1,1,0]):=
  K_87 (K_j K) (K_i K) rfl (fun _ _=>by kernel_rfl)
noncomputable def K_7p (K:Nat):SE:=stmtN [(5,.addr),(7,.val),(8,.int .u8)] [(10,.int .u8)] [(10,11),(69,84)] (fun x w=>K_39 K x.1 x.2.1 x.2.2.1 w)
theorem K_92(K:Nat)(R:Rg)(h:subRB [(10,11),(69,84)] R=true):(K_7p K).Ok prog R (cd (bodyOf f96) [1,1,1,1,1,1,0,1,1,1,0]):=K_2 (K_kn K) (K_1 h)
theorem K_j4(K:Nat)(n:Nat):StmtNOk prog [(0,.sl),(5,.addr),(6,.sl),(7,.val),(9,.int .u8),(10,.int .u8),(85,.int .i64),(86,.int .i64)] [(6,.sl)] [(6,7),(11,13),(86,108)] ((fun n x w=>K_15 K n x.1 x.2.1 x.2.2.1 x.2.2.2.1 x.2.2.2.2.1 x.2.2.2.2.2.1 x.2.2.2.2.2.2.1 x.2.2.2.2.2.2.2.1 w) n) (.block 0 (.loop (cd (bodyOf f96) [1,1,1,1,1,1,0,1,1,1,1,0,1,0,0]))):=
  K_9 (O:=tabL []) (root:=(bodyOf f96)) (π:=[1,1,1,1,1,1,0,1,1,1,1,0,1,0,0]) (Li:=[(0,.sl),(5,.addr),(6,.sl),(7,.val),(9,.int .u8),(10,.int .u8),(85,.int .i64),(86,.int .i64)]) (Lo:=[(6,.sl)]) (S:=(fun n x w=>K_15 K n x.1 x.2.1 x.2.2.1 x.2.2.2.1 x.2.2.2.2.1 x.2.2.2.2.2.1 x.2.2.2.2.2.2.1 x.2.2.2.2.2.2.2.1 w)) (K_j K) (K_i K) rfl (Orc.nil _ _ _) (by kernel_rfl) (fun _ _=>by kernel_rfl) (fun _ _ _=>by kernel_rfl) n
noncomputable def K_7q (K:Nat):SE:=stmtN [(0,.sl),(5,.addr),(6,.sl),(7,.val),(9,.int .u8),(10,.int .u8),(85,.int .i64),(86,.int .i64)] [(6,.sl)] [(6,7),(11,13),(86,108)] (fun x w=>K_15 K K x.1 x.2.1 x.2.2.1 x.2.2.2.1 x.2.2.2.2.1 x.2.2.2.2.2.1 x.2.2.2.2.2.2.1 x.2.2.2.2.2.2.2.1 w)
theorem K_9i(K:Nat)(R:Rg)(h:subRB [(6,7),(11,13),(86,108)] R=true):(K_7q K).Ok prog R (.block 0 (.loop (cd (bodyOf f96) [1,1,1,1,1,1,0,1,1,1,1,0,1,0,0]))):=K_2 (K_j4 K K) (K_1 h)
theorem K_kr(K:Nat):StmtOk prog [(0,.sl),(5,.addr),(6,.sl),(7,.val),(8,.int .u8),(39,.bool)] [(6,.sl)] [(2,.sl),(3,.int .i64),(4,.bool)] [(2,5),(6,7),(9,13),(40,111)] (fun x w=>K_70 K x.1 x.2.1 x.2.2.1 x.2.2.2.1 x.2.2.2.2.1 x.2.2.2.2.2.1 w) (cd (bodyOf f96) [1,1,1,1,1,1,0,1]):=
  K_yq (O:=tabL [([1,1,1,1,1,1,0,1,0,0,0],K_7d K),([1,1,1,1,1,1,0,1,1,0],K_79 K),([1,1,1,1,1,1,0,1,1,1,0],K_7p K),([1,1,1,1,1,1,0,1,1,1,1,0,1],K_7q K)]) (root:=(bodyOf f96)) (π:=[1,1,1,1,1,1,0,1]) (K_j K) (K_i K) rfl (Orc.cons (by kernel_rfl) (K_96 K [(2,5),(6,7),(9,13),(40,111)] (by kernel_rfl)) (Orc.cons (by kernel_rfl) (K_94 K [(2,5),(6,7),(9,13),(40,111)] (by kernel_rfl)) (Orc.cons (by kernel_rfl) (K_92 K [(2,5),(6,7),(9,13),(40,111)] (by kernel_rfl)) (Orc.cons (by kernel_rfl) (K_9i K [(2,5),(6,7),(9,13),(40,111)] (by kernel_rfl)) (Orc.nil _ _ _))))) (by kernel_rfl) (fun _ _=>by kernel_rfl)
noncomputable def K_bd (K:Nat):SE:=stmt [(0,.sl),(5,.addr),(6,.sl),(7,.val),(8,.int .u8),(39,.bool)] [(6,.sl)] [(2,.sl),(3,.int .i64),(4,.bool)] [(2,5),(6,7),(9,13),(40,111)] (fun x w=>K_70 K x.1 x.2.1 x.2.2.1 x.2.2.2.1 x.2.2.2.2.1 x.2.2.2.2.2.1 w)
theorem K_g6(K:Nat)(R:Rg)(h:subRB [(2,5),(6,7),(9,13),(40,111)] R=true):(K_bd K).Ok prog R (cd (bodyOf f96) [1,1,1,1,1,1,0,1]):=K_5z (K_kr K) (K_1 h)
theorem K_k3(K:Nat):StmtNOk prog [(5,.addr),(6,.sl),(7,.val),(14,.int .i64),(15,.int .u8),(16,.int .u8)] [(16,.int .u8)] [(16,17),(125,145)] (fun x w=>K_6s K x.1 x.2.1 x.2.2.1 x.2.2.2.1 x.2.2.2.2.1 x.2.2.2.2.2.1 w) (cd (bodyOf f96) [1,1,1,1,1,1,1,1,0,1,0,0,1,1,0,0,1,1,0,1,0]):=
  K_87 (K_j K) (K_i K) rfl (fun _ _=>by kernel_rfl)
noncomputable def K_4y (K:Nat):SE:=stmtN [(5,.addr),(6,.sl),(7,.val),(14,.int .i64),(15,.int .u8),(16,.int .u8)] [(16,.int .u8)] [(16,17),(125,145)] (fun x w=>K_6s K x.1 x.2.1 x.2.2.1 x.2.2.2.1 x.2.2.2.2.1 x.2.2.2.2.2.1 w)
theorem K_6j(K:Nat)(R:Rg)(h:subRB [(16,17),(125,145)] R=true):(K_4y K).Ok prog R (cd (bodyOf f96) [1,1,1,1,1,1,1,1,0,1,0,0,1,1,0,0,1,1,0,1,0]):=K_2 (K_k3 K) (K_1 h)
theorem K_jn(K:Nat):StmtNOk prog [(5,.addr),(6,.sl),(7,.val),(14,.int .i64),(15,.int .u8),(16,.int .u8),(124,.bool)] [(16,.int .u8)] [(16,17),(125,145)] (fun x w=>K_25 K x.1 x.2.1 x.2.2.1 x.2.2.2.1 x.2.2.2.2.1 x.2.2.2.2.2.1 x.2.2.2.2.2.2.1 w) (cd (bodyOf f96) [1,1,1,1,1,1,1,1,0,1,0,0,1,1,0,0,1,1,0,1]):=
  K_y (O:=tabL [([1,1,1,1,1,1,1,1,0,1,0,0,1,1,0,0,1,1,0,1,0],K_4y K)]) (root:=(bodyOf f96)) (π:=[1,1,1,1,1,1,1,1,0,1,0,0,1,1,0,0,1,1,0,1]) (K_j K) (K_i K) rfl (Orc.cons (by kernel_rfl) (K_6j K [(16,17),(125,145)] (by kernel_rfl)) (Orc.nil _ _ _)) (by kernel_rfl) (fun _ _=>by kernel_rfl)
noncomputable def K_7h (K:Nat):SE:=stmtN [(5,.addr),(6,.sl),(7,.val),(14,.int .i64),(15,.int .u8),(16,.int .u8),(124,.bool)] [(16,.int .u8)] [(16,17),(125,145)] (fun x w=>K_25 K x.1 x.2.1 x.2.2.1 x.2.2.2.1 x.2.2.2.2.1 x.2.2.2.2.2.1 x.2.2.2.2.2.2.1 w)
theorem K_97(K:Nat)(R:Rg)(h:subRB [(16,17),(125,145)] R=true):(K_7h K).Ok prog R (cd (bodyOf f96) [1,1,1,1,1,1,1,1,0,1,0,0,1,1,0,0,1,1,0,1]):=K_2 (K_jn K) (K_1 h)
theorem K_k1(K:Nat)(n:Nat):StmtNOk prog [(5,.addr),(6,.sl),(7,.val),(13,.sl),(15,.int .u8),(16,.int .u8),(17,.int .i64),(113,.sl),(114,.int .i64),(115,.int .i64),(146,.int .i64),(147,.int .i64)] [(17,.int .i64)] [(17,19),(147,160)] ((fun n x w=>K_1i K n x.1 x.2.1 x.2.2.1 x.2.2.2.1 x.2.2.2.2.1 x.2.2.2.2.2.1 x.2.2.2.2.2.2.1 x.2.2.2.2.2.2.2.1 x.2.2.2.2.2.2.2.2.1 x.2.2.2.2.2.2.2.2.2.1 x.2.2.2.2.2.2.2.2.2.2.1 x.2.2.2.2.2.2.2.2.2.2.2.1 w) n) (.block 4 (.loop (cd (bodyOf f96) [1,1,1,1,1,1,1,1,0,1,0,0,1,1,0,0,1,1,1,1,0,1,0,0]))):=
  K_9 (O:=tabL []) (root:=(bodyOf f96)) (π:=[1,1,1,1,1,1,1,1,0,1,0,0,1,1,0,0,1,1,1,1,0,1,0,0]) (Li:=[(5,.addr),(6,.sl),(7,.val),(13,.sl),(15,.int .u8),(16,.int .u8),(17,.int .i64),(113,.sl),(114,.int .i64),(115,.int .i64),(146,.int .i64),(147,.int .i64)]) (Lo:=[(17,.int .i64)]) (S:=(fun n x w=>K_1i K n x.1 x.2.1 x.2.2.1 x.2.2.2.1 x.2.2.2.2.1 x.2.2.2.2.2.1 x.2.2.2.2.2.2.1 x.2.2.2.2.2.2.2.1 x.2.2.2.2.2.2.2.2.1 x.2.2.2.2.2.2.2.2.2.1 x.2.2.2.2.2.2.2.2.2.2.1 x.2.2.2.2.2.2.2.2.2.2.2.1 w)) (K_j K) (K_i K) rfl (Orc.nil _ _ _) (by kernel_rfl) (fun _ _=>by kernel_rfl) (fun _ _ _=>by kernel_rfl) n
noncomputable def K_7l (K:Nat):SE:=stmtN [(5,.addr),(6,.sl),(7,.val),(13,.sl),(15,.int .u8),(16,.int .u8),(17,.int .i64),(113,.sl),(114,.int .i64),(115,.int .i64),(146,.int .i64),(147,.int .i64)] [(17,.int .i64)] [(17,19),(147,160)] (fun x w=>K_1i K K x.1 x.2.1 x.2.2.1 x.2.2.2.1 x.2.2.2.2.1 x.2.2.2.2.2.1 x.2.2.2.2.2.2.1 x.2.2.2.2.2.2.2.1 x.2.2.2.2.2.2.2.2.1 x.2.2.2.2.2.2.2.2.2.1 x.2.2.2.2.2.2.2.2.2.2.1 x.2.2.2.2.2.2.2.2.2.2.2.1 w)
theorem K_98(K:Nat)(R:Rg)(h:subRB [(17,19),(147,160)] R=true):(K_7l K).Ok prog R (.block 4 (.loop (cd (bodyOf f96) [1,1,1,1,1,1,1,1,0,1,0,0,1,1,0,0,1,1,1,1,0,1,0,0]))):=K_2 (K_k1 K K) (K_1 h)
theorem K_kj(K:Nat)(n:Nat):StmtOk prog [(5,.addr),(6,.sl),(7,.val),(13,.sl),(113,.sl),(114,.int .i64),(115,.int .i64)] [] [(2,.sl),(3,.int .i64),(4,.bool)] [(2,5),(14,19),(115,170)] ((fun n x w=>K_a K n x.1 x.2.1 x.2.2.1 x.2.2.2.1 x.2.2.2.2.1 x.2.2.2.2.2.1 x.2.2.2.2.2.2.1 w) n) (.block 2 (.loop (cd (bodyOf f96) [1,1,1,1,1,1,1,1,0,1,0,0]))):=
  K_7g (O:=tabL [([1,1,1,1,1,1,1,1,0,1,0,0,1,1,0,0,1,1,0,1],K_7h K),([1,1,1,1,1,1,1,1,0,1,0,0,1,1,0,0,1,1,0,1,0],K_4y K),([1,1,1,1,1,1,1,1,0,1,0,0,1,1,0,0,1,1,1,1,0,1],K_7l K)]) (root:=(bodyOf f96)) (π:=[1,1,1,1,1,1,1,1,0,1,0,0]) (Li:=[(5,.addr),(6,.sl),(7,.val),(13,.sl),(113,.sl),(114,.int .i64),(115,.int .i64)]) (Lo:=[]) (Lr:=[(2,.sl),(3,.int .i64),(4,.bool)]) (S:=(fun n x w=>K_a K n x.1 x.2.1 x.2.2.1 x.2.2.2.1 x.2.2.2.2.1 x.2.2.2.2.2.1 x.2.2.2.2.2.2.1 w)) (K_j K) (K_i K) rfl (Orc.cons (by kernel_rfl) (K_97 K [(2,5),(14,19),(115,170)] (by kernel_rfl)) (Orc.cons (by kernel_rfl) (K_6j K [(2,5),(14,19),(115,170)] (by kernel_rfl)) (Orc.cons (by kernel_rfl) (K_98 K [(2,5),(14,19),(115,170)] (by kernel_rfl)) (Orc.nil _ _ _)))) (by kernel_rfl) (fun _ _=>by kernel_rfl) (fun _ _ _=>by kernel_rfl) n
noncomputable def K_bb (K:Nat):SE:=stmt [(5,.addr),(6,.sl),(7,.val),(13,.sl),(113,.sl),(114,.int .i64),(115,.int .i64)] [] [(2,.sl),(3,.int .i64),(4,.bool)] [(2,5),(14,19),(115,170)] (fun x w=>K_a K K x.1 x.2.1 x.2.2.1 x.2.2.2.1 x.2.2.2.2.1 x.2.2.2.2.2.1 x.2.2.2.2.2.2.1 w)
theorem K_h0(K:Nat)(R:Rg)(h:subRB [(2,5),(14,19),(115,170)] R=true):(K_bb K).Ok prog R (.block 2 (.loop (cd (bodyOf f96) [1,1,1,1,1,1,1,1,0,1,0,0]))):=K_5z (K_kj K K) (K_1 h)
theorem K_ba:FunFacts prog 96 f96 (bodyOf f96) [(0,.sl)] [(0,177)]:=⟨func96,by kernel_rfl,by kernel_rfl,by kernel_rfl,by kernel_rfl,by kernel_rfl⟩
theorem K_j7(K:Nat)(x:TT [(0,.sl)])(w:World)(y:TR [.sl,.int .i64,.bool])(w2:World)(h:K_51 K x.1 w=some (y,w2)):Calls prog 96 (encA [(0,.sl)] x).toArray w (fun e w3=>e= .returned (resV (encR [.sl,.int .i64,.bool] y))∧w3=w2):=
  K_h (O:=tabL [([1,1,1,1,1,0],K_b8 K),([1,1,1,1,1,1,0,1],K_bd K),([1,1,1,1,1,1,0,1,0,0,0],K_7d K),([1,1,1,1,1,1,0,1,1,0],K_79 K),([1,1,1,1,1,1,0,1,1,1,0],K_7p K),([1,1,1,1,1,1,0,1,1,1,1,0,1],K_7q K),([1,1,1,1,1,1,1,1,0,1],K_bb K),([1,1,1,1,1,1,1,1,0,1,0,0,1,1,0,0,1,1,0,1],K_7h K),([1,1,1,1,1,1,1,1,0,1,0,0,1,1,0,0,1,1,0,1,0],K_4y K),([1,1,1,1,1,1,1,1,0,1,0,0,1,1,0,0,1,1,1,1,0,1],K_7l K)]) (Lp:=[(0,.sl)]) (Rt:=[.sl,.int .i64,.bool]) (S:=(fun x w=>K_51 K x.1 w)) (K_j K) (K_i K) rfl K_ba (Orc.cons (by kernel_rfl) (K_gf K [(0,177)] (by kernel_rfl)) (Orc.cons (by kernel_rfl) (K_g6 K [(0,177)] (by kernel_rfl)) (Orc.cons (by kernel_rfl) (K_96 K [(0,177)] (by kernel_rfl)) (Orc.cons (by kernel_rfl) (K_94 K [(0,177)] (by kernel_rfl)) (Orc.cons (by kernel_rfl) (K_92 K [(0,177)] (by kernel_rfl)) (Orc.cons (by kernel_rfl) (K_9i K [(0,177)] (by kernel_rfl)) (Orc.cons (by kernel_rfl) (K_h0 K [(0,177)] (by kernel_rfl)) (Orc.cons (by kernel_rfl) (K_97 K [(0,177)] (by kernel_rfl)) (Orc.cons (by kernel_rfl) (K_6j K [(0,177)] (by kernel_rfl)) (Orc.cons (by kernel_rfl) (K_98 K [(0,177)] (by kernel_rfl)) (Orc.nil _ _ _))))))))))) (fun _ _=>by kernel_rfl) x w y w2 h
noncomputable def K_ea (K:Nat):CE:=funE [(0,.sl)] [.sl,.int .i64,.bool] (fun x w=>K_51 K x.1 w)
theorem K_ow(K:Nat):(K_ea K).Ok prog 96:=K_b K_ba fun x w y w2 h=>K_j7 K x w y w2 h
noncomputable def K_ve:List (Nat×CE):=[]
theorem K_8v:Env.Ok prog (tab (K_ve)):=(Env.nil _)
noncomputable def K_vu:List (Nat×RE):=[]
theorem K_8r:REnv.Ok prog (tab (K_vu)):=(REnv.nil _)
noncomputable def K_7k (b0:Sl) (w:World):Option ((Addr×Unit)×World):=
 (b0.a).bind fun p_3=>
 if (0:Int)≤0∧0<((b0.len:Nat):Int) then((b0.a).bind fun p_4=>
 if (0:Int)≤1∧1<((b0.len:Nat):Int) then((b0.a).bind fun p_5=>
 if (0:Int)≤2∧2<((b0.len:Nat):Int) then((b0.a).bind fun p_6=>
 if (0:Int)≤3∧3<((b0.len:Nat):Int) then((b0.a).bind fun p_7=>
 if (0:Int)≤4∧4<((b0.len:Nat):Int) then((ldI .u8 (p_3.add (0*1)) w.drew).bind fun v_8=>
 (ldI .u8 (p_4.add (1*1)) w.drew).bind fun v_9=>
 (ldI .u8 (p_5.add (2*1)) w.drew).bind fun v_10=>
 (ldI .u8 (p_6.add (3*1)) w.drew).bind fun v_11=>
 (ldI .u8 (p_7.add (4*1)) w.drew).bind fun v_12=>
 (prog.built 84 [(0,(.int .u16 (bits .or .u16 (IntKind.u16.wrap ((IntKind.u16.wrap v_8)*2 ^ 8)) (IntKind.u16.wrap v_9)))),(1,(.int .i64 (IntKind.i64.wrap v_10))),(2,(.int .i64 (IntKind.i64.wrap v_11))),(3,(.int .i64 (IntKind.i64.wrap v_12)))]).bind fun cs_13=>
 (prog.built 102 [(0,(.agg cs_13))]).bind fun cs_14=>
 bnd (newB z102 102 w.drew) fun s_15 w_16=>
 (ldI .u8 (p_7.add (4*1)) w_16).bind fun v_17=>
 sameK (.int .u8 v_12) (.int .u8 v_17) ((ldI .u8 (p_6.add (3*1)) w_16).bind fun v_18=>
 sameK (.int .u8 v_11) (.int .u8 v_18) ((ldI .u8 (p_5.add (2*1)) w_16).bind fun v_19=>
 sameK (.int .u8 v_10) (.int .u8 v_19) ((ldI .u8 (p_4.add (1*1)) w_16).bind fun v_20=>
 sameK (.int .u8 v_9) (.int .u8 v_20) ((ldI .u8 (p_3.add (0*1)) w_16).bind fun v_21=>
 sameK (.int .u8 v_8) (.int .u8 v_21) (if (cs_14).size=5 then((stA s_15 cs_14 w_16).bind fun w_22=>
 (ldI .u8 (p_7.add (4*1)) w_22).bind fun v_23=>
 sameK (.int .u8 v_12) (.int .u8 v_23) ((ldI .u8 (p_6.add (3*1)) w_22).bind fun v_24=>
 sameK (.int .u8 v_11) (.int .u8 v_24) ((ldI .u8 (p_5.add (2*1)) w_22).bind fun v_25=>
 sameK (.int .u8 v_10) (.int .u8 v_25) ((ldI .u8 (p_4.add (1*1)) w_22).bind fun v_26=>
 sameK (.int .u8 v_9) (.int .u8 v_26) ((ldI .u8 (p_3.add (0*1)) w_22).bind fun v_27=>
 sameK (.int .u8 v_8) (.int .u8 v_27) (some ((s_15,()),w_22))))))) else none)))))) else none) else none) else none) else none) else none
noncomputable def K_7n (s4:Addr) (w:World):Option ((Bool×Unit)×World):=
 (ldI .i64 ((s4.add 0).add 1) w).bind fun v_30=>
 if (decide (v_30<1))=true then(some ((true,()),w)) else((ldI .i64 ((s4.add 0).add 1) w).bind fun v_31=>
 if (decide (v_31 > 16))=true then(some ((true,()),w)) else((ldI .i64 ((s4.add 0).add 2) w).bind fun v_32=>
 if (decide (v_32<1))=true then(some ((true,()),w)) else((ldI .i64 ((s4.add 0).add 3) w).bind fun v_33=>
 if (decide (v_33<1))=true then(some ((true,()),w)) else((ldI .i64 ((s4.add 0).add 3) w).bind fun v_34=>
 some (((decide (v_34 > 64)),()),w)))))
noncomputable def K_7v (b0:Sl) (n5:Int) (pad6:Int) (w:World):Option ((Bool×Unit)×World):=
 if (((b0.len:Nat):Int) != (IntKind.i64.wrap ((IntKind.i64.wrap ((IntKind.i64.wrap (5+n5))+pad6))+4)))=true then(some ((true,()),w)) else(if (pad6 == 1)=true then((b0.a).bind fun p_41=>
 if (0:Int)≤(IntKind.i64.wrap (5+n5))∧(IntKind.i64.wrap (5+n5))<((b0.len:Nat):Int) then((ldI .u8 (p_41.add ((Int.toNat (IntKind.i64.wrap (5+n5)))*1)) w).bind fun v_42=>
 some (((v_42 != 0),()),w)) else none) else(some ((false,()),w)))
noncomputable def K_8k (b0:Sl) (w:World):Option (((Array Value)×Bool×Unit)×World):=
 bnd (newB z102 102 w) fun p_1 w_2=>
 bnd (K_7k b0 w_2) fun y_28 w_29=>
 bnd (K_7n y_28.1 w_29) fun y_35 w_36=>
 if y_35.1=true then((prog.built 102 []).bind fun cs_37=>
 if (cs_37).size=5 then((stA p_1 cs_37 w_36).bind fun w_38=>
 (ldA 5 p_1 w_38).bind fun res_39=>
 some ((res_39,false,()),w_38)) else none) else((ldI .i64 ((y_28.1.add 0).add 3) w_36).bind fun v_40=>
 bnd (K_7v b0 (IntKind.i64.wrap (v_40+4)) (Int.tmod (IntKind.i64.wrap (5+(IntKind.i64.wrap (v_40+4)))) 2) w_36) fun y_43 w_44=>
 if y_43.1=true then((prog.built 102 []).bind fun cs_45=>
 if (cs_45).size=5 then((stA p_1 cs_45 w_44).bind fun w_46=>
 (ldA 5 p_1 w_46).bind fun res_47=>
 some ((res_47,false,()),w_46)) else none) else(if (0:Int)≤(IntKind.i64.wrap (5+(IntKind.i64.wrap (v_40+4))))∧(IntKind.i64.wrap (5+(IntKind.i64.wrap (v_40+4))))≤((b0.cap:Nat):Int) then(if (0:Int)≤(IntKind.i64.wrap (5+(IntKind.i64.wrap (v_40+4))))∧(IntKind.i64.wrap (5+(IntKind.i64.wrap (v_40+4))))≤(((Int.toNat ((IntKind.i64.wrap (5+(IntKind.i64.wrap (v_40+4)))))):Nat):Int) then(if (0:Int)≤5∧5≤(((Int.toNat ((IntKind.i64.wrap (5+(IntKind.i64.wrap (v_40+4)))))):Nat):Int) then((stC (y_28.1.add 4) (.slice (sla b0.a 5 (Int.toNat ((IntKind.i64.wrap (5+(IntKind.i64.wrap (v_40+4)))))) 1) ((Int.toNat ((IntKind.i64.wrap (5+(IntKind.i64.wrap (v_40+4)))))) - 5) ((Int.toNat ((IntKind.i64.wrap (5+(IntKind.i64.wrap (v_40+4)))))) - 5)) w_44).bind fun w_48=>
 (ldA 5 y_28.1 w_48).bind fun v_49=>
 if (v_49).size=5 then((stA p_1 v_49 w_48).bind fun w_50=>
 (ldA 5 p_1 w_50).bind fun res_51=>
 some ((res_51,true,()),w_50)) else none) else none) else none) else none))
theorem K_pi:StmtNOk prog [(0,.sl)] [(4,.addr)] [(4,5),(7,31)] (fun x w=>K_7k x.1 w) (cd (bodyOf f97) [1,0]):=
  K_87 (K_8v) (K_8r) rfl (fun _ _=>by kernel_rfl)
noncomputable def K_fc:SE:=stmtN [(0,.sl)] [(4,.addr)] [(4,5),(7,31)] (fun x w=>K_7k x.1 w)
theorem K_lm(R:Rg)(h:subRB [(4,5),(7,31)] R=true):(K_fc).Ok prog R (cd (bodyOf f97) [1,0]):=K_2 (K_pi) (K_1 h)
theorem K_pm:StmtNOk prog [(4,.addr)] [(58,.bool)] [(31,59)] (fun x w=>K_7n x.1 w) (cd (bodyOf f97) [1,1,0,0]):=
  K_y (O:=tabL []) (root:=(bodyOf f97)) (π:=[1,1,0,0]) (K_8v) (K_8r) rfl (Orc.nil _ _ _) (by kernel_rfl) (fun _ _=>by kernel_rfl)
noncomputable def K_ev:SE:=stmtN [(4,.addr)] [(58,.bool)] [(31,59)] (fun x w=>K_7n x.1 w)
theorem K_lu(R:Rg)(h:subRB [(31,59)] R=true):(K_ev).Ok prog R (cd (bodyOf f97) [1,1,0,0]):=K_2 (K_pm) (K_1 h)
theorem K_ps:StmtNOk prog [(0,.sl),(5,.int .i64),(6,.int .i64)] [(86,.bool)] [(67,87)] (fun x w=>K_7v x.1 x.2.1 x.2.2.1 w) (cd (bodyOf f97) [1,1,1,1,1,0,0]):=
  K_y (O:=tabL []) (root:=(bodyOf f97)) (π:=[1,1,1,1,1,0,0]) (K_8v) (K_8r) rfl (Orc.nil _ _ _) (by kernel_rfl) (fun _ _=>by kernel_rfl)
noncomputable def K_es:SE:=stmtN [(0,.sl),(5,.int .i64),(6,.int .i64)] [(86,.bool)] [(67,87)] (fun x w=>K_7v x.1 x.2.1 x.2.2.1 w)
theorem K_kt(R:Rg)(h:subRB [(67,87)] R=true):(K_es).Ok prog R (cd (bodyOf f97) [1,1,1,1,1,0,0]):=K_2 (K_ps) (K_1 h)
theorem K_f1:FunFacts prog 97 f97 (bodyOf f97) [(0,.sl)] [(0,96)]:=⟨func97,by kernel_rfl,by kernel_rfl,by kernel_rfl,by kernel_rfl,by kernel_rfl⟩
theorem K_py(x:TT [(0,.sl)])(w:World)(y:TR [.agg,.bool])(w2:World)(h:K_8k x.1 w=some (y,w2)):Calls prog 97 (encA [(0,.sl)] x).toArray w (fun e w3=>e= .returned (resV (encR [.agg,.bool] y))∧w3=w2):=
  K_h (O:=tabL [([1,0],K_fc),([1,1,0,0],K_ev),([1,1,1,1,1,0,0],K_es)]) (Lp:=[(0,.sl)]) (Rt:=[.agg,.bool]) (S:=(fun x w=>K_8k x.1 w)) (K_8v) (K_8r) rfl K_f1 (Orc.cons (by kernel_rfl) (K_lm [(0,96)] (by kernel_rfl)) (Orc.cons (by kernel_rfl) (K_lu [(0,96)] (by kernel_rfl)) (Orc.cons (by kernel_rfl) (K_kt [(0,96)] (by kernel_rfl)) (Orc.nil _ _ _)))) (fun _ _=>by kernel_rfl) x w y w2 h
noncomputable def K_kk:CE:=funE [(0,.sl)] [.agg,.bool] (fun x w=>K_8k x.1 w)
theorem K_tu:(K_kk).Ok prog 97:=K_b K_f1 fun x w y w2 h=>K_py x w y w2 h
noncomputable def K_s9 (K:Nat):List (Nat×CE):=[(95,K_e6 K),(96,K_ea K),(97,K_kk)]
theorem K_f6(K:Nat):Env.Ok prog (tab (K_s9 K)):=(Env.cons (K_nx K) (Env.cons (K_ow K) (Env.cons (K_tu) (Env.nil _))))
noncomputable def K_sc (K:Nat):List (Nat×RE):=[]
theorem K_fd(K:Nat):REnv.Ok prog (tab (K_sc K)):=(REnv.nil _)
noncomputable def K_6c (K:Nat) (b5:Sl) (w:World):Option ((Bool×Unit)×World):=
 if (decide (((b5.len:Nat):Int)<14))=true then(some ((true,()),w)) else(some (((decide (((b5.len:Nat):Int) > 78)),()),w))
noncomputable def K_6n (K:Nat) (text0:ByteArray) (w:World):Option (((Array Value)×Int×Int×Unit)×World):=
 bnd (newB z102 102 w) fun p_1 w_2=>
 if (decide (((text0.size:Nat):Int) > 1024))=true then((prog.built 102 []).bind fun cs_3=>
 if (cs_3).size=5 then((stA p_1 cs_3 w_2).bind fun w_4=>
 (ldA 5 p_1 w_4).bind fun res_5=>
 some ((res_5,0,4,()),w_4)) else none) else(bnd (K_4x K text0 w_2) fun r_6 w_7=>
 if (!r_6.2.1)=true then((prog.built 102 []).bind fun cs_8=>
 if (cs_8).size=5 then((stA p_1 cs_8 w_7).bind fun w_9=>
 (ldA 5 p_1 w_9).bind fun res_10=>
 some ((res_10,0,112,()),w_9)) else none) else(bnd (K_6c K r_6.1 w_7) fun y_11 w_12=>
 if y_11.1=true then((prog.built 102 []).bind fun cs_13=>
 if (cs_13).size=5 then((stA p_1 cs_13 w_12).bind fun w_14=>
 (ldA 5 p_1 w_14).bind fun res_15=>
 some ((res_15,0,113,()),w_14)) else none) else(bnd (K_51 K r_6.1 w_12) fun r_16 w_17=>
 if (!r_16.2.2.1)=true then((prog.built 102 []).bind fun cs_18=>
 if (cs_18).size=5 then((stA p_1 cs_18 w_17).bind fun w_19=>
 (ldA 5 p_1 w_19).bind fun res_20=>
 some ((res_20,0,113,()),w_19)) else none) else(bnd (K_8k r_16.1 w_17) fun r_21 w_22=>
 bnd (newB z102 102 w_22) fun s_23 w_24=>
 if (r_21.1).size=5 then((stA s_23 r_21.1 w_24).bind fun w_25=>
 if (!r_21.2.1)=true then((prog.built 102 []).bind fun cs_26=>
 if (cs_26).size=5 then((stA p_1 cs_26 w_25).bind fun w_27=>
 (ldA 5 p_1 w_27).bind fun res_28=>
 some ((res_28,0,113,()),w_27)) else none) else((ldA 5 s_23 w_25).bind fun v_29=>
 if (v_29).size=5 then((stA p_1 v_29 w_25).bind fun w_30=>
 (ldA 5 p_1 w_30).bind fun res_31=>
 some ((res_31,r_16.2.1,0,()),w_30)) else none)) else none))))
theorem K_mx(K:Nat):StmtNOk prog [(5,.sl)] [(29,.bool)] [(22,30)] (fun x w=>K_6c K x.1 w) (cd (bodyOf f74) [1,1,1,1,0,0]):=
  K_y (O:=tabL []) (root:=(bodyOf f74)) (π:=[1,1,1,1,0,0]) (K_f6 K) (K_fd K) rfl (Orc.nil _ _ _) (by kernel_rfl) (fun _ _=>by kernel_rfl)
noncomputable def K_cz (K:Nat):SE:=stmtN [(5,.sl)] [(29,.bool)] [(22,30)] (fun x w=>K_6c K x.1 w)
theorem K_ic(K:Nat)(R:Rg)(h:subRB [(22,30)] R=true):(K_cz K).Ok prog R (cd (bodyOf f74) [1,1,1,1,0,0]):=K_2 (K_mx K) (K_1 h)
theorem K_cy:FunFacts prog 74 f74 (bodyOf f74) [(0,.str)] [(0,50)]:=⟨func74,by kernel_rfl,by kernel_rfl,by kernel_rfl,by kernel_rfl,by kernel_rfl⟩
theorem K_nh(K:Nat)(x:TT [(0,.str)])(w:World)(y:TR [.agg,.int .i64,.int .i64])(w2:World)(h:K_6n K x.1 w=some (y,w2)):Calls prog 74 (encA [(0,.str)] x).toArray w (fun e w3=>e= .returned (resV (encR [.agg,.int .i64,.int .i64] y))∧w3=w2):=
  K_h (O:=tabL [([1,1,1,1,0,0],K_cz K)]) (Lp:=[(0,.str)]) (Rt:=[.agg,.int .i64,.int .i64]) (S:=(fun x w=>K_6n K x.1 w)) (K_f6 K) (K_fd K) rfl K_cy (Orc.cons (by kernel_rfl) (K_ic K [(0,50)] (by kernel_rfl)) (Orc.nil _ _ _)) (fun _ _=>by kernel_rfl) x w y w2 h
noncomputable def K_gr (K:Nat):CE:=funE [(0,.str)] [.agg,.int .i64,.int .i64] (fun x w=>K_6n K x.1 w)
theorem K_qs(K:Nat):(K_gr K).Ok prog 74:=K_b K_cy fun x w y w2 h=>K_nh K x w y w2 h
noncomputable def K_gx (K:Nat):List (Nat×CE):=[]
theorem K_8i(K:Nat):Env.Ok prog (tab (K_gx K)):=(Env.nil _)
noncomputable def K_gw (K:Nat):List (Nat×RE):=[]
theorem K_8f(K:Nat):REnv.Ok prog (tab (K_gw K)):=(REnv.nil _)
noncomputable def K_m (K:Nat) (rec:Sl→Sl→Int→Int→World→Option ((Out (Unit) (Bool×Unit))×World)) (s10:Sl) (s21:Sl) (a12:Int) (a13:Int) (w:World):Option ((Out (Unit) (Bool×Unit))×World):=
 if (decide (a13<a12))=true then((s10.a).bind fun p_1=>
 if (0:Int)≤a13∧a13<((s10.len:Nat):Int) then((s21.a).bind fun p_2=>
 if (0:Int)≤a13∧a13<((s21.len:Nat):Int) then((ldI .u8 (p_1.add ((Int.toNat a13)*1)) w.drew).bind fun v_3=>
 (ldI .u8 (p_2.add ((Int.toNat a13)*1)) w.drew).bind fun v_4=>
 if (v_3 != v_4)=true then(some (.ret (false,()),w.drew)) else(rec s10 s21 a12 (IntKind.i64.wrap (a13+1)) w.drew)) else none) else none) else(some (.norm (),w))
noncomputable def K_f (K:Nat) (n:Nat):Sl→Sl→Int→Int→World→Option ((Out (Unit) (Bool×Unit))×World):=iter (fun _ _ _ _ _=>none) (K_m K) n
noncomputable def K_t (K:Nat) (s10:Sl) (s21:Sl) (w:World):Option ((Bool×Unit)×World):=
 if (((s10.len:Nat):Int) != ((s21.len:Nat):Int))=true then(some ((false,()),w)) else(bnd (K_f K K s10 s21 ((s10.len:Nat):Int) 0 w) fun y_5 w_6=>
 (match y_5 with
 | .norm z_7n=>(some ((true,()),w_6))
 | .ret z_7r=>(some ((z_7r.1,()),w_6))))
theorem K_dj(K:Nat)(n:Nat):StmtOk prog [(0,.sl),(1,.sl),(12,.int .i64),(13,.int .i64)] [] [(4,.bool)] [(4,6),(13,26)] ((fun n x w=>K_f K n x.1 x.2.1 x.2.2.1 x.2.2.2.1 w) n) (.block 0 (.loop (cd (bodyOf f85) [1,1,0,1,0,0]))):=
  K_7g (O:=tabL []) (root:=(bodyOf f85)) (π:=[1,1,0,1,0,0]) (Li:=[(0,.sl),(1,.sl),(12,.int .i64),(13,.int .i64)]) (Lo:=[]) (Lr:=[(4,.bool)]) (S:=(fun n x w=>K_f K n x.1 x.2.1 x.2.2.1 x.2.2.2.1 w)) (K_8i K) (K_8f K) rfl (Orc.nil _ _ _) (by kernel_rfl) (fun _ _=>by kernel_rfl) (fun _ _ _=>by kernel_rfl) n
noncomputable def K_7i (K:Nat):SE:=stmt [(0,.sl),(1,.sl),(12,.int .i64),(13,.int .i64)] [] [(4,.bool)] [(4,6),(13,26)] (fun x w=>K_f K K x.1 x.2.1 x.2.2.1 x.2.2.2.1 w)
theorem K_by(K:Nat)(R:Rg)(h:subRB [(4,6),(13,26)] R=true):(K_7i K).Ok prog R (.block 0 (.loop (cd (bodyOf f85) [1,1,0,1,0,0]))):=K_5z (K_dj K K) (K_1 h)
theorem K_7u:FunFacts prog 85 f85 (bodyOf f85) [(0,.sl),(1,.sl)] [(0,26)]:=⟨func85,by kernel_rfl,by kernel_rfl,by kernel_rfl,by kernel_rfl,by kernel_rfl⟩
theorem K_dh(K:Nat)(x:TT [(0,.sl),(1,.sl)])(w:World)(y:TR [.bool])(w2:World)(h:K_t K x.1 x.2.1 w=some (y,w2)):Calls prog 85 (encA [(0,.sl),(1,.sl)] x).toArray w (fun e w3=>e= .returned (resV (encR [.bool] y))∧w3=w2):=
  K_h (O:=tabL [([1,1,0,1],K_7i K)]) (Lp:=[(0,.sl),(1,.sl)]) (Rt:=[.bool]) (S:=(fun x w=>K_t K x.1 x.2.1 w)) (K_8i K) (K_8f K) rfl K_7u (Orc.cons (by kernel_rfl) (K_by K [(0,26)] (by kernel_rfl)) (Orc.nil _ _ _)) (fun _ _=>by kernel_rfl) x w y w2 h
noncomputable def K_5q (K:Nat):CE:=funE [(0,.sl),(1,.sl)] [.bool] (fun x w=>K_t K x.1 x.2.1 w)
theorem K_8w(K:Nat):(K_5q K).Ok prog 85:=K_b K_7u fun x w y w2 h=>K_dh K x w y w2 h
end Go.Sh

namespace Go.Sh
open Go.Fw Go.Proofs.Tryd
noncomputable def K_rr (K:Nat):List (Nat×CE):=[]
theorem K_6t(K:Nat):Env.Ok prog (tab (K_rr K)):=(Env.nil _)
noncomputable def K_ro (K:Nat):List (Nat×RE):=[(87,K_a7 K),(61,K_1d K)]
theorem K_71(K:Nat):REnv.Ok prog (tab (K_ro K)):=(REnv.cons (K_f2 K) (REnv.cons (K_1p K) (REnv.nil _)))
noncomputable def K_1t (K:Nat) (rec:Sl→Int→Sl→Int→Addr→Int→Sl→Int→Int→Sl→Int→Int→World→Option ((Int×Unit)×World)) (l0:Sl) (x1:Int) (out5:Sl) (i6:Int) (s7:Addr) (w8:Int) (a26:Sl) (a27:Int) (a28:Int) (a33:Sl) (a34:Int) (a35:Int) (w:World):Option ((Int×Unit)×World):=
 if (decide (a35<a34))=true then((a33.a).bind fun p_12=>
 if (0:Int)≤a35∧a35<((a33.len:Nat):Int) then((ldA 5 (p_12.add ((Int.toNat a35)*5)) w).bind fun v_13=>
 bnd (newB z102 102 w) fun o_14 w_15=>
 if (v_13).size=5 then((stA o_14 v_13 w_15).bind fun w_16=>
 if (a35 != i6)=true then((ldI .i64 ((o_14.add 0).add 2) w_16.drew).bind fun v_17=>
 (ldI .i64 ((s7.add 0).add 2) w_16.drew).bind fun v_18=>
 (ldI .i64 ((o_14.add 0).add 2) w_16.drew).bind fun v_19=>
 (K_47 K (bits .xor .u8 (IntKind.u8.wrap v_18) (IntKind.u8.wrap v_19))).bind fun r_20=>
 (K_d K (bits .xor .u8 x1 (IntKind.u8.wrap v_17)) r_20.1).bind fun r_21=>
 (K_d K w8 r_21.1).bind fun r_22=>
 rec l0 x1 out5 i6 s7 r_22.1 a26 a27 a28 a33 a34 (IntKind.i64.wrap (a35+1)) w_16.drew) else(rec l0 x1 out5 i6 s7 w8 a26 a27 a28 a33 a34 (IntKind.i64.wrap (a35+1)) w_16)) else none) else none) else(some ((w8,()),w))
noncomputable def K_1c (K:Nat) (n:Nat):Sl→Int→Sl→Int→Addr→Int→Sl→Int→Int→Sl→Int→Int→World→Option ((Int×Unit)×World):=iter (fun _ _ _ _ _ _ _ _ _ _ _ _ _=>none) (K_1t K) n
noncomputable def K_3x (K:Nat) (rec:Sl→Int→Sl→Int→Sl→Int→Int→Sl→Int→Int→World→Option ((Unit)×World)) (l0:Sl) (x1:Int) (out5:Sl) (w8:Int) (a26:Sl) (a27:Int) (a28:Int) (a64:Sl) (a65:Int) (a66:Int) (w:World):Option ((Unit)×World):=
 if (decide (a66<a65))=true then((a64.a).bind fun p_26=>
 if (0:Int)≤a66∧a66<((a64.len:Nat):Int) then((ldI .u8 (p_26.add ((Int.toNat a66)*1)) w).bind fun v_27=>
 (out5.a).bind fun p_28=>
 if (0:Int)≤a66∧a66<((out5.len:Nat):Int) then((ldI .u8 (p_28.add ((Int.toNat a66)*1)) w.drew).bind fun v_29=>
 (K_d K w8 v_27).bind fun r_30=>
 (out5.a).bind fun p_31=>
 if (0:Int)≤a66∧a66<((out5.len:Nat):Int) then((stC (p_31.add ((Int.toNat a66)*1)) (.int .u8 (bits .xor .u8 v_29 r_30.1)) w.drew).bind fun w_32=>
 rec l0 x1 out5 w8 a26 a27 a28 a64 a65 (IntKind.i64.wrap (a66+1)) w_32) else none) else none) else none) else(some ((),w))
noncomputable def K_1r (K:Nat) (n:Nat):Sl→Int→Sl→Int→Sl→Int→Int→Sl→Int→Int→World→Option ((Unit)×World):=iter (fun _ _ _ _ _ _ _ _ _ _ _=>none) (K_3x K) n
noncomputable def K_44 (K:Nat) (rec:Sl→Int→Sl→Sl→Int→Int→World→Option ((Unit)×World)) (l0:Sl) (x1:Int) (out5:Sl) (a26:Sl) (a27:Int) (a28:Int) (w:World):Option ((Unit)×World):=
 if (decide (a28<a27))=true then((a26.a).bind fun p_7=>
 if (0:Int)≤a28∧a28<((a26.len:Nat):Int) then((ldA 5 (p_7.add ((Int.toNat a28)*5)) w).bind fun v_8=>
 bnd (newB z102 102 w) fun s_9 w_10=>
 if (v_8).size=5 then((stA s_9 v_8 w_10).bind fun w_11=>
 bnd (K_1c K K l0 x1 out5 a28 s_9 1 a26 a27 a28 l0 ((l0.len:Nat):Int) 0 w_11) fun y_23 w_24=>
 (ldS (s_9.add 4) w_24).bind fun v_25=>
 bnd (K_1r K K l0 x1 out5 y_23.1 a26 a27 a28 v_25 ((v_25.len:Nat):Int) 0 w_24) fun y_33 w_34=>
 rec l0 x1 out5 a26 a27 (IntKind.i64.wrap (a28+1)) w_34) else none) else none) else(some ((),w))
noncomputable def K_1o (K:Nat) (n:Nat):Sl→Int→Sl→Sl→Int→Int→World→Option ((Unit)×World):=iter (fun _ _ _ _ _ _ _=>none) (K_44 K) n
noncomputable def K_1f (K:Nat) (l0:Sl) (x1:Int) (w:World):Option ((Sl×Unit)×World):=
 (l0.a).bind fun p_1=>
 if (0:Int)≤0∧0<((l0.len:Nat):Int) then((ldI .i64 (((p_1.add (0*5)).add 0).add 1) w).bind fun v_2=>
 if (0:Int)≤v_2∧v_2≤((l0.cap:Nat):Int) then(((sla l0.a 0 l0.cap 5)).bind fun p_3=>
 if (0:Int)≤0∧0<((((Int.toNat (v_2)) - 0):Nat):Int) then((ldS ((p_3.add (0*5)).add 4) w).bind fun v_4=>
 bnd (mkS prog 23 (.int .i64 ((v_4.len:Nat):Int)) (.int .i64 ((v_4.len:Nat):Int)) w) fun s_5 w_6=>
 bnd (K_1o K K ⟨(sla l0.a 0 l0.cap 5),((Int.toNat (v_2)) - 0),(l0.cap - 0)⟩ x1 s_5 ⟨(sla l0.a 0 l0.cap 5),((Int.toNat (v_2)) - 0),(l0.cap - 0)⟩ ((((Int.toNat (v_2)) - 0):Nat):Int) 0 w_6) fun y_35 w_36=>
 some ((s_5,()),w_36)) else none) else none) else none
theorem K_l6(K:Nat)(n:Nat):StmtNOk prog [(0,.sl),(1,.int .u8),(5,.sl),(6,.int .i64),(7,.addr),(8,.int .u8),(26,.sl),(27,.int .i64),(28,.int .i64),(33,.sl),(34,.int .i64),(35,.int .i64)] [(8,.int .u8)] [(8,11),(35,63)] ((fun n x w=>K_1c K n x.1 x.2.1 x.2.2.1 x.2.2.2.1 x.2.2.2.2.1 x.2.2.2.2.2.1 x.2.2.2.2.2.2.1 x.2.2.2.2.2.2.2.1 x.2.2.2.2.2.2.2.2.1 x.2.2.2.2.2.2.2.2.2.1 x.2.2.2.2.2.2.2.2.2.2.1 x.2.2.2.2.2.2.2.2.2.2.2.1 w) n) (.block 2 (.loop (cd (bodyOf f58) [1,1,1,0,1,0,0,1,1,0,0,1,1,0,1,0,0]))):=
  K_9 (O:=tabL []) (root:=(bodyOf f58)) (π:=[1,1,1,0,1,0,0,1,1,0,0,1,1,0,1,0,0]) (Li:=[(0,.sl),(1,.int .u8),(5,.sl),(6,.int .i64),(7,.addr),(8,.int .u8),(26,.sl),(27,.int .i64),(28,.int .i64),(33,.sl),(34,.int .i64),(35,.int .i64)]) (Lo:=[(8,.int .u8)]) (S:=(fun n x w=>K_1c K n x.1 x.2.1 x.2.2.1 x.2.2.2.1 x.2.2.2.2.1 x.2.2.2.2.2.1 x.2.2.2.2.2.2.1 x.2.2.2.2.2.2.2.1 x.2.2.2.2.2.2.2.2.1 x.2.2.2.2.2.2.2.2.2.1 x.2.2.2.2.2.2.2.2.2.2.1 x.2.2.2.2.2.2.2.2.2.2.2.1 w)) (K_6t K) (K_71 K) rfl (Orc.nil _ _ _) (by kernel_rfl) (fun _ _=>by kernel_rfl) (fun _ _ _=>by kernel_rfl) n
noncomputable def K_85 (K:Nat):SE:=stmtN [(0,.sl),(1,.int .u8),(5,.sl),(6,.int .i64),(7,.addr),(8,.int .u8),(26,.sl),(27,.int .i64),(28,.int .i64),(33,.sl),(34,.int .i64),(35,.int .i64)] [(8,.int .u8)] [(8,11),(35,63)] (fun x w=>K_1c K K x.1 x.2.1 x.2.2.1 x.2.2.2.1 x.2.2.2.2.1 x.2.2.2.2.2.1 x.2.2.2.2.2.2.1 x.2.2.2.2.2.2.2.1 x.2.2.2.2.2.2.2.2.1 x.2.2.2.2.2.2.2.2.2.1 x.2.2.2.2.2.2.2.2.2.2.1 x.2.2.2.2.2.2.2.2.2.2.2.1 w)
theorem K_9t(K:Nat)(R:Rg)(h:subRB [(8,11),(35,63)] R=true):(K_85 K).Ok prog R (.block 2 (.loop (cd (bodyOf f58) [1,1,1,0,1,0,0,1,1,0,0,1,1,0,1,0,0]))):=K_2 (K_l6 K K) (K_1 h)
theorem K_ll(K:Nat)(n:Nat):StmtNOk prog [(0,.sl),(1,.int .u8),(5,.sl),(8,.int .u8),(26,.sl),(27,.int .i64),(28,.int .i64),(64,.sl),(65,.int .i64),(66,.int .i64)] [] [(11,13),(66,81)] ((fun n x w=>K_1r K n x.1 x.2.1 x.2.2.1 x.2.2.2.1 x.2.2.2.2.1 x.2.2.2.2.2.1 x.2.2.2.2.2.2.1 x.2.2.2.2.2.2.2.1 x.2.2.2.2.2.2.2.2.1 x.2.2.2.2.2.2.2.2.2.1 w) n) (.block 4 (.loop (cd (bodyOf f58) [1,1,1,0,1,0,0,1,1,0,0,1,1,1,1,0,0]))):=
  K_9 (O:=tabL []) (root:=(bodyOf f58)) (π:=[1,1,1,0,1,0,0,1,1,0,0,1,1,1,1,0,0]) (Li:=[(0,.sl),(1,.int .u8),(5,.sl),(8,.int .u8),(26,.sl),(27,.int .i64),(28,.int .i64),(64,.sl),(65,.int .i64),(66,.int .i64)]) (Lo:=[]) (S:=(fun n x w=>K_1r K n x.1 x.2.1 x.2.2.1 x.2.2.2.1 x.2.2.2.2.1 x.2.2.2.2.2.1 x.2.2.2.2.2.2.1 x.2.2.2.2.2.2.2.1 x.2.2.2.2.2.2.2.2.1 x.2.2.2.2.2.2.2.2.2.1 w)) (K_6t K) (K_71 K) rfl (Orc.nil _ _ _) (by kernel_rfl) (fun _ _=>by kernel_rfl) (fun _ _ _=>by kernel_rfl) n
noncomputable def K_81 (K:Nat):SE:=stmtN [(0,.sl),(1,.int .u8),(5,.sl),(8,.int .u8),(26,.sl),(27,.int .i64),(28,.int .i64),(64,.sl),(65,.int .i64),(66,.int .i64)] [] [(11,13),(66,81)] (fun x w=>K_1r K K x.1 x.2.1 x.2.2.1 x.2.2.2.1 x.2.2.2.2.1 x.2.2.2.2.2.1 x.2.2.2.2.2.2.1 x.2.2.2.2.2.2.2.1 x.2.2.2.2.2.2.2.2.1 x.2.2.2.2.2.2.2.2.2.1 w)
theorem K_9n(K:Nat)(R:Rg)(h:subRB [(11,13),(66,81)] R=true):(K_81 K).Ok prog R (.block 4 (.loop (cd (bodyOf f58) [1,1,1,0,1,0,0,1,1,0,0,1,1,1,1,0,0]))):=K_2 (K_ll K K) (K_1 h)
theorem K_li(K:Nat)(n:Nat):StmtNOk prog [(0,.sl),(1,.int .u8),(5,.sl),(26,.sl),(27,.int .i64),(28,.int .i64)] [] [(6,13),(28,82)] ((fun n x w=>K_1o K n x.1 x.2.1 x.2.2.1 x.2.2.2.1 x.2.2.2.2.1 x.2.2.2.2.2.1 w) n) (.block 0 (.loop (cd (bodyOf f58) [1,1,1,0,1,0,0]))):=
  K_9 (O:=tabL [([1,1,1,0,1,0,0,1,1,0,0,1,1,0,1],K_85 K),([1,1,1,0,1,0,0,1,1,0,0,1,1,1,1],K_81 K)]) (root:=(bodyOf f58)) (π:=[1,1,1,0,1,0,0]) (Li:=[(0,.sl),(1,.int .u8),(5,.sl),(26,.sl),(27,.int .i64),(28,.int .i64)]) (Lo:=[]) (S:=(fun n x w=>K_1o K n x.1 x.2.1 x.2.2.1 x.2.2.2.1 x.2.2.2.2.1 x.2.2.2.2.2.1 w)) (K_6t K) (K_71 K) rfl (Orc.cons (by kernel_rfl) (K_9t K [(6,13),(28,82)] (by kernel_rfl)) (Orc.cons (by kernel_rfl) (K_9n K [(6,13),(28,82)] (by kernel_rfl)) (Orc.nil _ _ _))) (by kernel_rfl) (fun _ _=>by kernel_rfl) (fun _ _ _=>by kernel_rfl) n
noncomputable def K_ca (K:Nat):SE:=stmtN [(0,.sl),(1,.int .u8),(5,.sl),(26,.sl),(27,.int .i64),(28,.int .i64)] [] [(6,13),(28,82)] (fun x w=>K_1o K K x.1 x.2.1 x.2.2.1 x.2.2.2.1 x.2.2.2.2.1 x.2.2.2.2.2.1 w)
theorem K_hi(K:Nat)(R:Rg)(h:subRB [(6,13),(28,82)] R=true):(K_ca K).Ok prog R (.block 0 (.loop (cd (bodyOf f58) [1,1,1,0,1,0,0]))):=K_2 (K_li K K) (K_1 h)
theorem K_cr:FunFacts prog 58 f58 (bodyOf f58) [(0,.sl),(1,.int .u8)] [(0,83)]:=⟨func58,by kernel_rfl,by kernel_rfl,by kernel_rfl,by kernel_rfl,by kernel_rfl⟩
theorem K_lr(K:Nat)(x:TT [(0,.sl),(1,.int .u8)])(w:World)(y:TR [.sl])(w2:World)(h:K_1f K x.1 x.2.1 w=some (y,w2)):Calls prog 58 (encA [(0,.sl),(1,.int .u8)] x).toArray w (fun e w3=>e= .returned (resV (encR [.sl] y))∧w3=w2):=
  K_h (O:=tabL [([1,1,1,0,1],K_ca K),([1,1,1,0,1,0,0,1,1,0,0,1,1,0,1],K_85 K),([1,1,1,0,1,0,0,1,1,0,0,1,1,1,1],K_81 K)]) (Lp:=[(0,.sl),(1,.int .u8)]) (Rt:=[.sl]) (S:=(fun x w=>K_1f K x.1 x.2.1 w)) (K_6t K) (K_71 K) rfl K_cr (Orc.cons (by kernel_rfl) (K_hi K [(0,83)] (by kernel_rfl)) (Orc.cons (by kernel_rfl) (K_9t K [(0,83)] (by kernel_rfl)) (Orc.cons (by kernel_rfl) (K_9n K [(0,83)] (by kernel_rfl)) (Orc.nil _ _ _)))) (fun _ _=>by kernel_rfl) x w y w2 h
noncomputable def K_af (K:Nat):CE:=funE [(0,.sl),(1,.int .u8)] [.sl] (fun x w=>K_1f K x.1 x.2.1 w)
theorem K_fe(K:Nat):(K_af K).Ok prog 58:=K_b K_cr fun x w y w2 h=>K_lr K x w y w2 h
noncomputable def K_w0 (K:Nat):List (Nat×CE):=[(58,K_af K),(85,K_5q K),(52,K_en K)]
theorem K_j5(K:Nat):Env.Ok prog (tab (K_w0 K)):=(Env.cons (K_fe K) (Env.cons (K_8w K) (Env.cons (K_mn K) (Env.nil _))))
noncomputable def K_wj (K:Nat):List (Nat×RE):=[]
theorem K_kl(K:Nat):REnv.Ok prog (tab (K_wj K)):=(REnv.nil _)
noncomputable def K_3j (K:Nat) (rec:Sl→Sl→Int→Int→World→Option ((Out (Unit) (Int×Unit))×World)) (l0:Sl) (a12:Sl) (a13:Int) (a14:Int) (w:World):Option ((Out (Unit) (Int×Unit))×World):=
 if (decide (a14<a13))=true then((a12.a).bind fun p_3=>
 if (0:Int)≤a14∧a14<((a12.len:Nat):Int) then((ldA 5 (p_3.add ((Int.toNat a14)*5)) w).bind fun v_4=>
 bnd (newB z102 102 w) fun s_5 w_6=>
 if (v_4).size=5 then((stA s_5 v_4 w_6).bind fun w_7=>
 (ldI .i64 ((s_5.add 0).add 2) w_7.drew).bind fun v_8=>
 (ldS (s_5.add 4) w_7.drew).bind fun v_9=>
 bnd (K_1f K l0 (IntKind.u8.wrap v_8) w_7.drew) fun r_10 w_11=>
 (ldS (s_5.add 4) w_11).bind fun v_12=>
 sameK (.slice v_9.a v_9.len v_9.cap) (.slice v_12.a v_12.len v_12.cap) (bnd (K_t K r_10.1 v_9 w_11) fun r_13 w_14=>
 if (!r_13.1)=true then(some (.ret (117,()),w_14)) else(rec l0 a12 a13 (IntKind.i64.wrap (a14+1)) w_14))) else none) else none) else(some (.norm (),w))
noncomputable def K_2q (K:Nat) (n:Nat):Sl→Sl→Int→Int→World→Option ((Out (Unit) (Int×Unit))×World):=iter (fun _ _ _ _ _=>none) (K_3j K) n
noncomputable def K_9m (K:Nat) (l0:Sl) (w:World):Option ((Int×Unit)×World):=
 (l0.a).bind fun p_1=>
 if (0:Int)≤0∧0<((l0.len:Nat):Int) then((ldI .i64 (((p_1.add (0*5)).add 0).add 1) w).bind fun v_2=>
 if (0:Int)≤v_2∧v_2≤((l0.len:Nat):Int) then(bnd (K_2q K K l0 ⟨(sla l0.a (Int.toNat (v_2)) l0.cap 5),(l0.len - (Int.toNat (v_2))),(l0.cap - (Int.toNat (v_2)))⟩ (((l0.len - (Int.toNat (v_2))):Nat):Int) 0 w) fun y_15 w_16=>
 (match y_15 with
 | .norm z_17n=>(bnd (K_1f K l0 0 w_16) fun r_18 w_19=>
 (l0.a).bind fun p_20=>
 if (0:Int)≤0∧0<((l0.len:Nat):Int) then((l0.a).bind fun p_21=>
 if (0:Int)≤0∧0<((l0.len:Nat):Int) then((ldI .u16 (((p_20.add (0*5)).add 0).add 0) w_19.drew).bind fun v_22=>
 (ldI .i64 (((p_21.add (0*5)).add 0).add 3) w_19.drew).bind fun v_23=>
 if (0:Int)≤v_23∧v_23≤((r_18.1.cap:Nat):Int) then(bnd (K_8d K v_22 ⟨(sla r_18.1.a 0 r_18.1.cap 1),((Int.toNat (v_23)) - 0),(r_18.1.cap - 0)⟩ w_19.drew) fun r_24 w_25=>
 bnd (K_t K r_24.1 r_18.1 w_25) fun r_26 w_27=>
 if (!r_26.1)=true then(some ((117,()),w_27)) else(some ((0,()),w_27))) else none) else none) else none)
 | .ret z_17r=>(some ((z_17r.1,()),w_16)))) else none) else none
theorem K_r5(K:Nat)(n:Nat):StmtOk prog [(0,.sl),(12,.sl),(13,.int .i64),(14,.int .i64)] [] [(2,.int .i64)] [(2,3),(4,5),(14,29)] ((fun n x w=>K_2q K n x.1 x.2.1 x.2.2.1 x.2.2.2.1 w) n) (.block 0 (.loop (cd (bodyOf f86) [1,0,1,0,0]))):=
  K_7g (O:=tabL []) (root:=(bodyOf f86)) (π:=[1,0,1,0,0]) (Li:=[(0,.sl),(12,.sl),(13,.int .i64),(14,.int .i64)]) (Lo:=[]) (Lr:=[(2,.int .i64)]) (S:=(fun n x w=>K_2q K n x.1 x.2.1 x.2.2.1 x.2.2.2.1 w)) (K_j5 K) (K_kl K) rfl (Orc.nil _ _ _) (by kernel_rfl) (fun _ _=>by kernel_rfl) (fun _ _ _=>by kernel_rfl) n
noncomputable def K_hd (K:Nat):SE:=stmt [(0,.sl),(12,.sl),(13,.int .i64),(14,.int .i64)] [] [(2,.int .i64)] [(2,3),(4,5),(14,29)] (fun x w=>K_2q K K x.1 x.2.1 x.2.2.1 x.2.2.2.1 w)
theorem K_mq(K:Nat)(R:Rg)(h:subRB [(2,3),(4,5),(14,29)] R=true):(K_hd K).Ok prog R (.block 0 (.loop (cd (bodyOf f86) [1,0,1,0,0]))):=K_5z (K_r5 K K) (K_1 h)
theorem K_g7:FunFacts prog 86 f86 (bodyOf f86) [(0,.sl)] [(0,47)]:=⟨func86,by kernel_rfl,by kernel_rfl,by kernel_rfl,by kernel_rfl,by kernel_rfl⟩
theorem K_qu(K:Nat)(x:TT [(0,.sl)])(w:World)(y:TR [.int .i64])(w2:World)(h:K_9m K x.1 w=some (y,w2)):Calls prog 86 (encA [(0,.sl)] x).toArray w (fun e w3=>e= .returned (resV (encR [.int .i64] y))∧w3=w2):=
  K_h (O:=tabL [([1,0,1],K_hd K)]) (Lp:=[(0,.sl)]) (Rt:=[.int .i64]) (S:=(fun x w=>K_9m K x.1 w)) (K_j5 K) (K_kl K) rfl K_g7 (Orc.cons (by kernel_rfl) (K_mq K [(0,47)] (by kernel_rfl)) (Orc.nil _ _ _)) (fun _ _=>by kernel_rfl) x w y w2 h
noncomputable def K_mg (K:Nat):CE:=funE [(0,.sl)] [.int .i64] (fun x w=>K_9m K x.1 w)
theorem K_vd(K:Nat):(K_mg K).Ok prog 86:=K_b K_g7 fun x w y w2 h=>K_qu K x w y w2 h
noncomputable def K_vt (K:Nat):List (Nat×CE):=[(74,K_gr K),(85,K_5q K),(86,K_mg K)]
theorem K_6z(K:Nat):Env.Ok prog (tab (K_vt K)):=(Env.cons (K_qs K) (Env.cons (K_8w K) (Env.cons (K_vd K) (Env.nil _))))
noncomputable def K_vm (K:Nat):List (Nat×RE):=[]
theorem K_6y(K:Nat):REnv.Ok prog (tab (K_vm K)):=(REnv.nil _)
noncomputable def K_62 (K:Nat) (rec:Sl→Sl→Int→Int→World→Option ((Out (Sl×Unit) (Sl×Int×Unit))×World)) (all4:Sl) (a18:Sl) (a19:Int) (a20:Int) (w:World):Option ((Out (Sl×Unit) (Sl×Int×Unit))×World):=
 if (decide (a20<a19))=true then((a18.a).bind fun p_1=>
 if (0:Int)≤a20∧a20<((a18.len:Nat):Int) then((ldStr (p_1.add ((Int.toNat a20)*1)) w).bind fun v_2=>
 bnd (K_6n K v_2 w) fun r_3 w_4=>
 bnd (newB z102 102 w_4) fun s_5 w_6=>
 if (r_3.1).size=5 then((stA s_5 r_3.1 w_6).bind fun w_7=>
 if (r_3.2.2.1 != 0)=true then(some (.ret (⟨none,0,0⟩,r_3.2.2.1,()),w_7)) else((ldA 5 s_5 w_7).bind fun v_8=>
 bnd (bldS prog 108 1 #[(0,(.agg v_8))] w_7) fun s_9 w_10=>
 bnd (apd prog 108 108 (.slice all4.a all4.len all4.cap) (.slice s_9.a s_9.len s_9.cap) w_10) fun s_11 w_12=>
 rec s_11 a18 a19 (IntKind.i64.wrap (a20+1)) w_12)) else none) else none) else(some (.norm (all4,()),w))
noncomputable def K_o (K:Nat) (n:Nat):Sl→Sl→Int→Int→World→Option ((Out (Sl×Unit) (Sl×Int×Unit))×World):=iter (fun _ _ _ _ _=>none) (K_62 K) n
noncomputable def K_6e (K:Nat) (rec:Sl→Sl→Int→Int→World→Option ((Out (Unit) (Sl×Int×Unit))×World)) (all4:Sl) (a41:Sl) (a42:Int) (a43:Int) (w:World):Option ((Out (Unit) (Sl×Int×Unit))×World):=
 if (decide (a43<a42))=true then((a41.a).bind fun p_16=>
 if (0:Int)≤a43∧a43<((a41.len:Nat):Int) then((ldA 5 (p_16.add ((Int.toNat a43)*5)) w).bind fun v_17=>
 bnd (newB z102 102 w) fun s_18 w_19=>
 if (v_17).size=5 then((stA s_18 v_17 w_19).bind fun w_20=>
 (all4.a).bind fun p_21=>
 if (0:Int)≤0∧0<((all4.len:Nat):Int) then((ldI .u16 ((s_18.add 0).add 0) w_20.drew).bind fun v_22=>
 (ldI .u16 (((p_21.add (0*5)).add 0).add 0) w_20.drew).bind fun v_23=>
 if (v_22 != v_23)=true then(some (.ret (⟨none,0,0⟩,115,()),w_20.drew)) else((all4.a).bind fun p_24=>
 if (0:Int)≤0∧0<((all4.len:Nat):Int) then((ldI .i64 ((s_18.add 0).add 1) w_20.drew).bind fun v_25=>
 (ldI .i64 (((p_24.add (0*5)).add 0).add 1) w_20.drew).bind fun v_26=>
 if (v_25 != v_26)=true then(some (.ret (⟨none,0,0⟩,115,()),w_20.drew)) else((all4.a).bind fun p_27=>
 if (0:Int)≤0∧0<((all4.len:Nat):Int) then((ldI .i64 ((s_18.add 0).add 3) w_20.drew).bind fun v_28=>
 (ldI .i64 (((p_27.add (0*5)).add 0).add 3) w_20.drew).bind fun v_29=>
 if (v_28 != v_29)=true then(some (.ret (⟨none,0,0⟩,115,()),w_20.drew)) else(rec all4 a41 a42 (IntKind.i64.wrap (a43+1)) w_20.drew)) else none)) else none)) else none) else none) else none) else(some (.norm (),w))
noncomputable def K_1m (K:Nat) (n:Nat):Sl→Sl→Int→Int→World→Option ((Out (Unit) (Sl×Int×Unit))×World):=iter (fun _ _ _ _ _=>none) (K_6e K) n
noncomputable def K_2z (K:Nat) (s15:Addr) (old16:Addr) (there17:Bool) (w:World):Option ((Bool×Unit)×World):=
 if there17=true then((ldS (old16.add 4) w).bind fun v_50=>
 (ldS (s15.add 4) w).bind fun v_51=>
 bnd (K_t K v_50 v_51 w) fun r_52 w_53=>
 some (((!r_52.1),()),w_53)) else(some ((false,()),w))
noncomputable def K_6k (K:Nat) (rec:Value→Sl→Sl→Int→Int→World→Option ((Out (Sl×Unit) (Sl×Int×Unit))×World)) (seen12:Value) (l13:Sl) (a80:Sl) (a81:Int) (a82:Int) (w:World):Option ((Out (Sl×Unit) (Sl×Int×Unit))×World):=
 if (decide (a82<a81))=true then((a80.a).bind fun p_35=>
 if (0:Int)≤a82∧a82<((a80.len:Nat):Int) then((ldA 5 (p_35.add ((Int.toNat a82)*5)) w).bind fun v_36=>
 bnd (newB z102 102 w) fun s_37 w_38=>
 if (v_36).size=5 then((stA s_37 v_36 w_38).bind fun w_39=>
 (ldI .i64 ((s_37.add 0).add 2) w_39).bind fun v_40=>
 bnd (lkp prog 133 seen12 (.int .i64 v_40) true w_39) fun v_41 w_42=>
 tupX v_41 0 fun v_43=>
 (asA v_43).bind fun v_44=>
 tupX v_41 1 fun v_45=>
 (asB v_45).bind fun v_46=>
 bnd (newB z102 102 w_42) fun old_47 w_48=>
 if (v_44).size=5 then((stA old_47 v_44 w_48).bind fun w_49=>
 bnd (K_2z K s_37 old_47 v_46 w_49) fun y_54 w_55=>
 if y_54.1=true then(some (.ret (⟨none,0,0⟩,116,()),w_55)) else(if (!v_46)=true then((ldI .i64 ((s_37.add 0).add 2) w_55).bind fun v_56=>
 (ldA 5 s_37 w_55).bind fun v_57=>
 bnd (mput prog 133 seen12 (.int .i64 v_56) (.agg v_57) w_55) fun _ w_58=>
 (ldA 5 s_37 w_58).bind fun v_59=>
 bnd (bldS prog 108 1 #[(0,(.agg v_59))] w_58) fun s_60 w_61=>
 bnd (apd prog 108 108 (.slice l13.a l13.len l13.cap) (.slice s_60.a s_60.len s_60.cap) w_61) fun s_62 w_63=>
 rec seen12 s_62 a80 a81 (IntKind.i64.wrap (a82+1)) w_63) else(rec seen12 l13 a80 a81 (IntKind.i64.wrap (a82+1)) w_55))) else none) else none) else none) else(some (.norm (l13,()),w))
noncomputable def K_c (K:Nat) (n:Nat):Value→Sl→Sl→Int→Int→World→Option ((Out (Sl×Unit) (Sl×Int×Unit))×World):=iter (fun _ _ _ _ _ _=>none) (K_6k K) n
noncomputable def K_8j (K:Nat) (texts0:Sl) (w:World):Option ((Sl×Int×Unit)×World):=
 bnd (K_o K K ⟨none,0,0⟩ texts0 ((texts0.len:Nat):Int) 0 w) fun y_13 w_14=>
 (match y_13 with
 | .norm z_15n=>(if (((z_15n.1.len:Nat):Int) == 0)=true then(some ((⟨none,0,0⟩,114,()),w_14)) else(bnd (K_1m K K z_15n.1 z_15n.1 ((z_15n.1.len:Nat):Int) 0 w_14) fun y_30 w_31=>
 (match y_30 with
 | .norm z_32n=>(bnd (mmk prog 133 none w_31) fun m_33 w_34=>
 bnd (K_c K K m_33 ⟨none,0,0⟩ z_15n.1 ((z_15n.1.len:Nat):Int) 0 w_34) fun y_64 w_65=>
 (match y_64 with
 | .norm z_66n=>((z_66n.1.a).bind fun p_67=>
 if (0:Int)≤0∧0<((z_66n.1.len:Nat):Int) then((ldI .i64 (((p_67.add (0*5)).add 0).add 1) w_65).bind fun v_68=>
 if (decide (((z_66n.1.len:Nat):Int)<v_68))=true then(some ((⟨none,0,0⟩,114,()),w_65)) else(bnd (K_9m K z_66n.1 w_65) fun r_69 w_70=>
 some ((z_66n.1,r_69.1,()),w_70))) else none)
 | .ret z_66r=>(some ((z_66r.1,z_66r.2.1,()),w_65))))
 | .ret z_32r=>(some ((z_32r.1,z_32r.2.1,()),w_31)))))
 | .ret z_15r=>(some ((z_15r.1,z_15r.2.1,()),w_14)))
theorem K_pz(K:Nat)(n:Nat):StmtOk prog [(4,.sl),(18,.sl),(19,.int .i64),(20,.int .i64)] [(4,.sl)] [(2,.sl),(3,.int .i64)] [(2,5),(6,10),(20,38)] ((fun n x w=>K_o K n x.1 x.2.1 x.2.2.1 x.2.2.2.1 w) n) (.block 0 (.loop (cd (bodyOf f57) [1,1,0,1,0,0]))):=
  K_7g (O:=tabL []) (root:=(bodyOf f57)) (π:=[1,1,0,1,0,0]) (Li:=[(4,.sl),(18,.sl),(19,.int .i64),(20,.int .i64)]) (Lo:=[(4,.sl)]) (Lr:=[(2,.sl),(3,.int .i64)]) (S:=(fun n x w=>K_o K n x.1 x.2.1 x.2.2.1 x.2.2.2.1 w)) (K_6z K) (K_6y K) rfl (Orc.nil _ _ _) (by kernel_rfl) (fun _ _=>by kernel_rfl) (fun _ _ _=>by kernel_rfl) n
noncomputable def K_f4 (K:Nat):SE:=stmt [(4,.sl),(18,.sl),(19,.int .i64),(20,.int .i64)] [(4,.sl)] [(2,.sl),(3,.int .i64)] [(2,5),(6,10),(20,38)] (fun x w=>K_o K K x.1 x.2.1 x.2.2.1 x.2.2.2.1 w)
theorem K_m2(K:Nat)(R:Rg)(h:subRB [(2,5),(6,10),(20,38)] R=true):(K_f4 K).Ok prog R (.block 0 (.loop (cd (bodyOf f57) [1,1,0,1,0,0]))):=K_5z (K_pz K K) (K_1 h)
theorem K_pn(K:Nat)(n:Nat):StmtOk prog [(4,.sl),(41,.sl),(42,.int .i64),(43,.int .i64)] [] [(2,.sl),(3,.int .i64)] [(2,4),(11,12),(43,79)] ((fun n x w=>K_1m K n x.1 x.2.1 x.2.2.1 x.2.2.2.1 w) n) (.block 2 (.loop (cd (bodyOf f57) [1,1,1,1,0,1,0,0]))):=
  K_7g (O:=tabL []) (root:=(bodyOf f57)) (π:=[1,1,1,1,0,1,0,0]) (Li:=[(4,.sl),(41,.sl),(42,.int .i64),(43,.int .i64)]) (Lo:=[]) (Lr:=[(2,.sl),(3,.int .i64)]) (S:=(fun n x w=>K_1m K n x.1 x.2.1 x.2.2.1 x.2.2.2.1 w)) (K_6z K) (K_6y K) rfl (Orc.nil _ _ _) (by kernel_rfl) (fun _ _=>by kernel_rfl) (fun _ _ _=>by kernel_rfl) n
noncomputable def K_et (K:Nat):SE:=stmt [(4,.sl),(41,.sl),(42,.int .i64),(43,.int .i64)] [] [(2,.sl),(3,.int .i64)] [(2,4),(11,12),(43,79)] (fun x w=>K_1m K K x.1 x.2.1 x.2.2.1 x.2.2.2.1 w)
theorem K_l3(K:Nat)(R:Rg)(h:subRB [(2,4),(11,12),(43,79)] R=true):(K_et K).Ok prog R (.block 2 (.loop (cd (bodyOf f57) [1,1,1,1,0,1,0,0]))):=K_5z (K_pn K K) (K_1 h)
theorem K_q5(K:Nat):StmtNOk prog [(15,.addr),(16,.addr),(17,.bool)] [(102,.bool)] [(94,103)] (fun x w=>K_2z K x.1 x.2.1 x.2.2.1 w) (cd (bodyOf f57) [1,1,1,1,1,1,1,0,1,0,0,1,1,0,0,1,1,0,0]):=
  K_y (O:=tabL []) (root:=(bodyOf f57)) (π:=[1,1,1,1,1,1,1,0,1,0,0,1,1,0,0,1,1,0,0]) (K_6z K) (K_6y K) rfl (Orc.nil _ _ _) (by kernel_rfl) (fun _ _=>by kernel_rfl)
noncomputable def K_ab (K:Nat):SE:=stmtN [(15,.addr),(16,.addr),(17,.bool)] [(102,.bool)] [(94,103)] (fun x w=>K_2z K x.1 x.2.1 x.2.2.1 w)
theorem K_c6(K:Nat)(R:Rg)(h:subRB [(94,103)] R=true):(K_ab K).Ok prog R (cd (bodyOf f57) [1,1,1,1,1,1,1,0,1,0,0,1,1,0,0,1,1,0,0]):=K_2 (K_q5 K) (K_1 h)
theorem K_px(K:Nat)(n:Nat):StmtOk prog [(12,.val),(13,.sl),(80,.sl),(81,.int .i64),(82,.int .i64)] [(13,.sl)] [(2,.sl),(3,.int .i64)] [(2,4),(13,14),(15,18),(82,115)] ((fun n x w=>K_c K n x.1 x.2.1 x.2.2.1 x.2.2.2.1 x.2.2.2.2.1 w) n) (.block 4 (.loop (cd (bodyOf f57) [1,1,1,1,1,1,1,0,1,0,0]))):=
  K_7g (O:=tabL [([1,1,1,1,1,1,1,0,1,0,0,1,1,0,0,1,1,0,0],K_ab K)]) (root:=(bodyOf f57)) (π:=[1,1,1,1,1,1,1,0,1,0,0]) (Li:=[(12,.val),(13,.sl),(80,.sl),(81,.int .i64),(82,.int .i64)]) (Lo:=[(13,.sl)]) (Lr:=[(2,.sl),(3,.int .i64)]) (S:=(fun n x w=>K_c K n x.1 x.2.1 x.2.2.1 x.2.2.2.1 x.2.2.2.2.1 w)) (K_6z K) (K_6y K) rfl (Orc.cons (by kernel_rfl) (K_c6 K [(2,4),(13,14),(15,18),(82,115)] (by kernel_rfl)) (Orc.nil _ _ _)) (by kernel_rfl) (fun _ _=>by kernel_rfl) (fun _ _ _=>by kernel_rfl) n
noncomputable def K_ff (K:Nat):SE:=stmt [(12,.val),(13,.sl),(80,.sl),(81,.int .i64),(82,.int .i64)] [(13,.sl)] [(2,.sl),(3,.int .i64)] [(2,4),(13,14),(15,18),(82,115)] (fun x w=>K_c K K x.1 x.2.1 x.2.2.1 x.2.2.2.1 x.2.2.2.2.1 w)
theorem K_l8(K:Nat)(R:Rg)(h:subRB [(2,4),(13,14),(15,18),(82,115)] R=true):(K_ff K).Ok prog R (.block 4 (.loop (cd (bodyOf f57) [1,1,1,1,1,1,1,0,1,0,0]))):=K_5z (K_px K K) (K_1 h)
theorem K_ew:FunFacts prog 57 f57 (bodyOf f57) [(0,.sl)] [(0,126)]:=⟨func57,by kernel_rfl,by kernel_rfl,by kernel_rfl,by kernel_rfl,by kernel_rfl⟩
theorem K_q7(K:Nat)(x:TT [(0,.sl)])(w:World)(y:TR [.sl,.int .i64])(w2:World)(h:K_8j K x.1 w=some (y,w2)):Calls prog 57 (encA [(0,.sl)] x).toArray w (fun e w3=>e= .returned (resV (encR [.sl,.int .i64] y))∧w3=w2):=
  K_h (O:=tabL [([1,1,0,1],K_f4 K),([1,1,1,1,0,1],K_et K),([1,1,1,1,1,1,1,0,1],K_ff K),([1,1,1,1,1,1,1,0,1,0,0,1,1,0,0,1,1,0,0],K_ab K)]) (Lp:=[(0,.sl)]) (Rt:=[.sl,.int .i64]) (S:=(fun x w=>K_8j K x.1 w)) (K_6z K) (K_6y K) rfl K_ew (Orc.cons (by kernel_rfl) (K_m2 K [(0,126)] (by kernel_rfl)) (Orc.cons (by kernel_rfl) (K_l3 K [(0,126)] (by kernel_rfl)) (Orc.cons (by kernel_rfl) (K_l8 K [(0,126)] (by kernel_rfl)) (Orc.cons (by kernel_rfl) (K_c6 K [(0,126)] (by kernel_rfl)) (Orc.nil _ _ _))))) (fun _ _=>by kernel_rfl) x w y w2 h
noncomputable def K_jm (K:Nat):CE:=funE [(0,.sl)] [.sl,.int .i64] (fun x w=>K_8j K x.1 w)
theorem K_uf(K:Nat):(K_jm K).Ok prog 57:=K_b K_ew fun x w y w2 h=>K_q7 K x w y w2 h
noncomputable def K_vc (K:Nat):List (Nat×CE):=[(57,K_jm K),(58,K_af K)]
theorem K_sf(K:Nat):Env.Ok prog (tab (K_vc K)):=(Env.cons (K_uf K) (Env.cons (K_fe K) (Env.nil _)))
noncomputable def K_vg (K:Nat):List (Nat×RE):=[]
theorem K_t7(K:Nat):REnv.Ok prog (tab (K_vg K)):=(REnv.nil _)
noncomputable def K_4e (K:Nat) (shares0:Sl) (w:World):Option ((Sl×Int×Unit)×World):=
 bnd (K_8j K shares0 w) fun r_1 w_2=>
 if (r_1.2.1 != 0)=true then(some ((⟨none,0,0⟩,r_1.2.1,()),w_2)) else(bnd (K_1f K r_1.1 0 w_2) fun r_3 w_4=>
 (r_1.1.a).bind fun p_5=>
 if (0:Int)≤0∧0<((r_1.1.len:Nat):Int) then((r_1.1.a).bind fun p_6=>
 if (0:Int)≤0∧0<((r_1.1.len:Nat):Int) then((ldI .i64 (((p_5.add (0*5)).add 0).add 3) w_4.drew).bind fun v_7=>
 (ldI .i64 (((p_6.add (0*5)).add 0).add 3) w_4.drew).bind fun v_8=>
 if (0:Int)≤v_8∧v_8≤((r_3.1.cap:Nat):Int) then(if (0:Int)≤v_7∧v_7≤(((Int.toNat (v_8)):Nat):Int) then(some ((⟨(sla r_3.1.a 0 (Int.toNat (v_8)) 1),((Int.toNat (v_7)) - 0),((Int.toNat (v_8)) - 0)⟩,0,()),w_4.drew)) else none) else none) else none) else none)
theorem K_f7:FunFacts prog 28 f28 (bodyOf f28) [(0,.sl)] [(0,29)]:=⟨func28,by kernel_rfl,by kernel_rfl,by kernel_rfl,by kernel_rfl,by kernel_rfl⟩
theorem K_pr(K:Nat)(x:TT [(0,.sl)])(w:World)(y:TR [.sl,.int .i64])(w2:World)(h:K_4e K x.1 w=some (y,w2)):Calls prog 28 (encA [(0,.sl)] x).toArray w (fun e w3=>e= .returned (resV (encR [.sl,.int .i64] y))∧w3=w2):=
  K_h (O:=tabL []) (Lp:=[(0,.sl)]) (Rt:=[.sl,.int .i64]) (S:=(fun x w=>K_4e K x.1 w)) (K_sf K) (K_t7 K) rfl K_f7 (Orc.nil _ _ _) (fun _ _=>by kernel_rfl) x w y w2 h
noncomputable def K_j8 (K:Nat):CE:=funE [(0,.sl)] [.sl,.int .i64] (fun x w=>K_4e K x.1 w)
theorem K_ua(K:Nat):(K_j8 K).Ok prog 28:=K_b K_f7 fun x w y w2 h=>K_pr K x w y w2 h
noncomputable def K_nq (K:Nat):List (Nat×CE):=[(13,K_c2 K),(16,K_dk K)]
theorem K_5o(K:Nat):Env.Ok prog (tab (K_nq K)):=(Env.cons (K_kz K) (Env.cons (K_k8 K) (Env.nil _)))
noncomputable def K_ov (K:Nat):List (Nat×RE):=[(12,K_cl),(19,K_gh)]
theorem K_5m(K:Nat):REnv.Ok prog (tab (K_ov K)):=(REnv.cons (K_gq) (REnv.cons (K_nw) (REnv.nil _)))
noncomputable def K_3y (K:Nat) (d1:Addr) (a17:Bool) (w:World):Option ((Unit)×World):=
 if a17=true then(bnd (bldS prog 23 1 #[(0,(.int .u8 5))] w) fun s_14 w_15=>
 (stC (d1.add 1) (.slice s_14.a s_14.len s_14.cap) w_15).bind fun w_16=>
 some ((),w_16)) else(some ((),w))
noncomputable def K_3z (K:Nat) (d1:Addr) (w:World):Option ((Sl×Int×Unit)×World):=
 (ldI .u16 (d1.add 0) w.drew).bind fun v_24=>
 (ldS (d1.add 1) w.drew).bind fun v_25=>
 (ldI .i64 (d1.add 2) w.drew).bind fun v_26=>
 (ldI .i64 (d1.add 3) w.drew).bind fun v_27=>
 (ldA 6 d1 w.drew).bind fun v_28=>
 bnd (K_3v K v_28 w.drew) fun r_29 w_30=>
 (ldA 6 d1 w_30).bind fun v_31=>
 sameK (.agg v_28) (.agg v_31) ((ldI .i64 (d1.add 3) w_30).bind fun v_32=>
 sameK (.int .i64 v_27) (.int .i64 v_32) ((ldI .i64 (d1.add 2) w_30).bind fun v_33=>
 sameK (.int .i64 v_26) (.int .i64 v_33) ((ldS (d1.add 1) w_30).bind fun v_34=>
 sameK (.slice v_25.a v_25.len v_25.cap) (.slice v_34.a v_34.len v_34.cap) ((ldI .u16 (d1.add 0) w_30).bind fun v_35=>
 sameK (.int .u16 v_24) (.int .u16 v_35) (bnd (K_5x K v_24 v_25 v_26 v_27 r_29.1 w_30) fun r_36 w_37=>
 (ldA 6 d1 w_37).bind fun v_38=>
 sameK (.agg v_28) (.agg v_38) ((ldI .i64 (d1.add 3) w_37).bind fun v_39=>
 sameK (.int .i64 v_27) (.int .i64 v_39) ((ldI .i64 (d1.add 2) w_37).bind fun v_40=>
 sameK (.int .i64 v_26) (.int .i64 v_40) ((ldS (d1.add 1) w_37).bind fun v_41=>
 sameK (.slice v_25.a v_25.len v_25.cap) (.slice v_41.a v_41.len v_41.cap) ((ldI .u16 (d1.add 0) w_37).bind fun v_42=>
 sameK (.int .u16 v_24) (.int .u16 v_42) (some ((r_36.1,r_36.2.1,()),w_37)))))))))))
noncomputable def K_41 (K:Nat) (d1:Addr) (a2:Addr) (a3:Sl) (a4:Bool) (l5:Sl) (e6:Int) (w:World):Option ((Sl×Bool×Unit)×World):=
 (ldA 6 d1 w.drew).bind fun v_45=>
 (K_5w e6).bind fun r_46=>
 (ldA 6 d1 w.drew).bind fun v_47=>
 sameK (.agg v_45) (.agg v_47) (if (r_46.1 == 0)=true then((ldI .i64 (d1.add 3) w.drew).bind fun v_48=>
 if (v_45).size=6 then((stA a2 v_45 w.drew).bind fun w_49=>
 (ldI .i64 (d1.add 3) w_49).bind fun v_50=>
 sameK (.int .i64 v_48) (.int .i64 v_50) ((ldA 6 d1 w_49).bind fun v_51=>
 sameK (.agg v_45) (.agg v_51) (some ((l5,(((l5.len:Nat):Int) == v_48),()),w_49)))) else none) else(if (v_45).size=6 then((stA a2 v_45 w.drew).bind fun w_52=>
 (ldA 6 d1 w_52).bind fun v_53=>
 sameK (.agg v_45) (.agg v_53) (some ((l5,false,()),w_52))) else none))
noncomputable def K_2v (K:Nat) (d0:Array Value) (w:World):Option (((Array Value)×Sl×Bool×Unit)×World):=
 bnd (newB d0 25 w) fun p_1 w_2=>
 bnd (newB z25 25 w_2) fun p_3 w_4=>
 (stC (p_1.add 4) (.bool false) w_4).bind fun w_5=>
 bnd (bldS prog 23 0 #[] w_5) fun s_6 w_7=>
 (ldS (p_1.add 1) w_7).bind fun v_8=>
 (K_1b v_8 64).bind fun r_9=>
 bnd (apd prog 23 23 (.slice s_6.a s_6.len s_6.cap) (.slice r_9.1.a r_9.1.len r_9.1.cap) w_7) fun s_10 w_11=>
 (stC (p_1.add 1) (.slice s_10.a s_10.len s_10.cap) w_11).bind fun w_12=>
 (ldS (p_1.add 1) w_12).bind fun v_13=>
 bnd (K_3y K p_1 (((v_13.len:Nat):Int) == 0) w_12) fun y_17 w_18=>
 (ldI .i64 (p_1.add 2) w_18).bind fun v_19=>
 (stC (p_1.add 2) (.int .i64 (IntKind.i64.wrap (1+(IntKind.i64.wrap (Int.tmod (IntKind.u64.wrap v_19) 16))))) w_18).bind fun w_20=>
 (ldI .i64 (p_1.add 2) w_20).bind fun v_21=>
 (ldI .i64 (p_1.add 3) w_20).bind fun v_22=>
 (stC (p_1.add 3) (.int .i64 (IntKind.i64.wrap (v_21+(IntKind.i64.wrap (Int.tmod (IntKind.u64.wrap v_22) 9))))) w_20).bind fun w_23=>
 bnd (K_3z K p_1 w_23) fun y_43 w_44=>
 bnd (K_41 K p_1 p_3 ⟨none,0,0⟩ false y_43.1 y_43.2.1 w_44) fun y_54 w_55=>
 (ldA 6 p_3 w_55).bind fun res_56=>
 some ((res_56,y_54.1,y_54.2.1,()),w_55)
theorem K_iy(K:Nat):StmtNOk prog [(1,.addr),(17,.bool)] [] [(18,20)] (fun x w=>K_3y K x.1 x.2.1 w) (cd (bodyOf f32) [1,1,1,0,1]):=
  K_y (O:=tabL []) (root:=(bodyOf f32)) (π:=[1,1,1,0,1]) (K_5o K) (K_5m K) rfl (Orc.nil _ _ _) (by kernel_rfl) (fun _ _=>by kernel_rfl)
noncomputable def K_aw (K:Nat):SE:=stmtN [(1,.addr),(17,.bool)] [] [(18,20)] (fun x w=>K_3y K x.1 x.2.1 w)
theorem K_fv(K:Nat)(R:Rg)(h:subRB [(18,20)] R=true):(K_aw K).Ok prog R (cd (bodyOf f32) [1,1,1,0,1]):=K_2 (K_iy K) (K_1 h)
theorem K_i7(K:Nat):StmtNOk prog [(1,.addr)] [(5,.sl),(6,.int .i64)] [(5,7),(36,50)] (fun x w=>K_3z K x.1 w) (cd (bodyOf f32) [1,1,1,1,1,1,0]):=
  K_87 (K_5o K) (K_5m K) rfl (fun _ _=>by kernel_rfl)
noncomputable def K_ay (K:Nat):SE:=stmtN [(1,.addr)] [(5,.sl),(6,.int .i64)] [(5,7),(36,50)] (fun x w=>K_3z K x.1 w)
theorem K_fw(K:Nat)(R:Rg)(h:subRB [(5,7),(36,50)] R=true):(K_ay K).Ok prog R (cd (bodyOf f32) [1,1,1,1,1,1,0]):=K_2 (K_i7 K) (K_1 h)
theorem K_in(K:Nat):StmtNOk prog [(1,.addr),(2,.addr),(3,.sl),(4,.bool),(5,.sl),(6,.int .i64)] [(3,.sl),(4,.bool)] [(3,5),(50,62)] (fun x w=>K_41 K x.1 x.2.1 x.2.2.1 x.2.2.2.1 x.2.2.2.2.1 x.2.2.2.2.2.1 w) (cd (bodyOf f32) [1,1,1,1,1,1,1,0]):=
  K_87 (K_5o K) (K_5m K) rfl (fun _ _=>by kernel_rfl)
noncomputable def K_ax (K:Nat):SE:=stmtN [(1,.addr),(2,.addr),(3,.sl),(4,.bool),(5,.sl),(6,.int .i64)] [(3,.sl),(4,.bool)] [(3,5),(50,62)] (fun x w=>K_41 K x.1 x.2.1 x.2.2.1 x.2.2.2.1 x.2.2.2.2.1 x.2.2.2.2.2.1 w)
theorem K_ft(K:Nat)(R:Rg)(h:subRB [(3,5),(50,62)] R=true):(K_ax K).Ok prog R (cd (bodyOf f32) [1,1,1,1,1,1,1,0]):=K_2 (K_in K) (K_1 h)
theorem K_as:FunFacts prog 32 f32 (bodyOf f32) [(0,.agg)] [(0,62)]:=⟨func32,by kernel_rfl,by kernel_rfl,by kernel_rfl,by kernel_rfl,by kernel_rfl⟩
theorem K_iq(K:Nat)(x:TT [(0,.agg)])(w:World)(y:TR [.agg,.sl,.bool])(w2:World)(h:K_2v K x.1 w=some (y,w2)):Calls prog 32 (encA [(0,.agg)] x).toArray w (fun e w3=>e= .returned (resV (encR [.agg,.sl,.bool] y))∧w3=w2):=
  K_h (O:=tabL [([1,1,1,0,1],K_aw K),([1,1,1,1,1,1,0],K_ay K),([1,1,1,1,1,1,1,0],K_ax K)]) (Lp:=[(0,.agg)]) (Rt:=[.agg,.sl,.bool]) (S:=(fun x w=>K_2v K x.1 w)) (K_5o K) (K_5m K) rfl K_as (Orc.cons (by kernel_rfl) (K_fv K [(0,62)] (by kernel_rfl)) (Orc.cons (by kernel_rfl) (K_fw K [(0,62)] (by kernel_rfl)) (Orc.cons (by kernel_rfl) (K_ft K [(0,62)] (by kernel_rfl)) (Orc.nil _ _ _)))) (fun _ _=>by kernel_rfl) x w y w2 h
noncomputable def K_d2 (K:Nat):CE:=funE [(0,.agg)] [.agg,.sl,.bool] (fun x w=>K_2v K x.1 w)
theorem K_n8(K:Nat):(K_d2 K).Ok prog 32:=K_b K_as fun x w y w2 h=>K_iq K x w y w2 h
end Go.Sh
