/- Texts of this claim, put together: Sh0, Sh1, Sh2, Sh3, Sh4, Sh5 -/
import Derived.Test.YteomkfcfhlljkaaDoorAllFwmlkaep
import Derived.Test.YteomkfcfhlljkaaDoorProg
set_option maxRecDepth 100000
set_option linter.unusedVariables false
namespace Go.Sh
open Go.Fw Go.Proofs.Tryd
def z4:Array Value:=([.bool false]:List Value).toArray
def z23:Array Value:=([.slice none 0 0]:List Value).toArray
def z25:Array Value:=([.int .u16 0] ++ [.slice none 0 0] ++ List.replicate 2 (.int .i64 0) ++ [.bool false] ++ [.slice none 0 0]:List Value).toArray
def z102:Array Value:=([.int .u16 0] ++ List.replicate 3 (.int .i64 0) ++ [.slice none 0 0]:List Value).toArray
def z105:Array Value:=([.int .u16 0] ++ List.replicate 3 (.int .i64 0) ++ [.slice none 0 0] ++ [.int .i64 0]:List Value).toArray
def z138:Array Value:=(List.replicate 3 (.int .i64 0) ++ [.nilFunc]:List Value).toArray
def z150:Array Value:=Array.replicate 8 (.int .u64 0)
def z170:Array Value:=Array.replicate 4 (.int .u8 0)
def z174:Array Value:=Array.replicate 64 (.int .u32 0)
def z175:Array Value:=Array.replicate 80 (.int .u64 0)
def z176:Array Value:=Array.replicate 8 (.int .u32 0)
def z180:Array Value:=(List.replicate 3 (.int .i64 0) ++ [.nilFunc] ++ [.int .i64 0] ++ List.replicate 9 (.int .u64 0) ++ List.replicate 128 (.int .u8 0):List Value).toArray
def z188:Array Value:=Array.replicate 256 (.int .u8 0)
def str0:ByteArray:=⟨#[]⟩
def str1:ByteArray:=⟨#[98,100,102,103,104,106,107,108,109,110,112,114,115,116,118,122]⟩
def str2:ByteArray:=⟨#[97,105,111,117]⟩
noncomputable def K_y0:List (Nat×RE):=[]
theorem K_vf:REnv.Ok prog (tab (K_y0)):=(REnv.nil _)
noncomputable def K_1b (b0:Sl) (most1:Int):Option (Sl×Unit):=
 if (decide (((b0.len:Nat):Int) > most1))=true then(if (0:Int)≤most1∧most1≤((b0.cap:Nat):Int) then(some (⟨(sla b0.a 0 b0.cap 1),((Int.toNat (most1)) - 0),(b0.cap - 0)⟩,())) else none) else(some (b0,()))
theorem K_hu:FunFacts prog 12 f12 (bodyOf f12) [(0,.sl),(1,.int .i64)] [(0,13)]:=⟨func12,by kernel_rfl,by kernel_rfl,by kernel_rfl,by kernel_rfl,by kernel_rfl⟩
theorem K_sq(x:TT [(0,.sl),(1,.int .i64)])(w:World)(y:TR [.sl])(h:K_1b x.1 x.2.1=some y):Calls prog 12 (encA [(0,.sl),(1,.int .i64)] x).toArray w (fun e w3=>e= .returned (resV (encR [.sl] y))∧w3=w):=
  K_6p (O:=tabL []) (Lp:=[(0,.sl),(1,.int .i64)]) (Rt:=[.sl]) (S:=(fun x w=>K_1b x.1 x.2.1)) (K_vf) K_hu (OrcQ.nil _ _ _) (fun _ _=>by kernel_rfl) x w y h
noncomputable def K_cl:RE:=funR [(0,.sl),(1,.int .i64)] [.sl] (fun x w=>K_1b x.1 x.2.1)
theorem K_gq:(K_cl).Ok prog 12:=K_6o K_hu fun x w y h=>K_sq x w y h
noncomputable def K_td:List (Nat×RE):=[]
theorem K_gb:REnv.Ok prog (tab (K_td)):=(REnv.nil _)
noncomputable def K_8s (need0:Int) (size1:Int):Option (Out (Bool×Unit) (Int×Unit)):=
 if (decide (need0<1))=true then(some (.norm (true,()))) else(if (decide (need0 > 16))=true then(some (.norm (true,()))) else(if (decide (size1<1))=true then(some (.norm (true,()))) else(some (.norm ((decide (size1 > 64)),())))))
noncomputable def K_6h (need0:Int) (size1:Int):Option (Int×Unit):=
 (K_8s need0 size1).bind fun y_1=>
 (match y_1 with
 | .norm z_2n=>(if z_2n.1=true then(some (0,())) else(some ((IntKind.i64.wrap ((IntKind.i64.wrap (need0 - 1))*(IntKind.i64.wrap (size1+4)))),())))
 | .ret z_2r=>(some (z_2r.1,())))
theorem K_of:StmtQOk prog [(0,.int .i64),(1,.int .i64)] [(18,.bool)] [(4,.int .i64)] [(5,19)] (fun x w=>K_8s x.1 x.2.1) (cd (bodyOf f18) [1,0,0]):=
  K_l7 (O:=tabL []) (root:=(bodyOf f18)) (π:=[1,0,0]) (K_gb) (OrcQ.nil _ _ _) (by kernel_rfl) (fun _ _=>by kernel_rfl)
noncomputable def K_dy:SQ:=stmtQ [(0,.int .i64),(1,.int .i64)] [(18,.bool)] [(4,.int .i64)] [(5,19)] (fun x w=>K_8s x.1 x.2.1)
theorem K_kh(R:Rg)(h:subRB [(5,19)] R=true):(K_dy).Ok prog R (cd (bodyOf f18) [1,0,0]):=K_9b (K_of) (K_1 h)
theorem K_ee:FunFacts prog 18 f18 (bodyOf f18) [(0,.int .i64),(1,.int .i64)] [(0,24)]:=⟨func18,by kernel_rfl,by kernel_rfl,by kernel_rfl,by kernel_rfl,by kernel_rfl⟩
theorem K_p3(x:TT [(0,.int .i64),(1,.int .i64)])(w:World)(y:TR [.int .i64])(h:K_6h x.1 x.2.1=some y):Calls prog 18 (encA [(0,.int .i64),(1,.int .i64)] x).toArray w (fun e w3=>e= .returned (resV (encR [.int .i64] y))∧w3=w):=
  K_6p (O:=tabL [([1,0,0],K_dy)]) (Lp:=[(0,.int .i64),(1,.int .i64)]) (Rt:=[.int .i64]) (S:=(fun x w=>K_6h x.1 x.2.1)) (K_gb) K_ee (OrcQ.cons (by kernel_rfl) (K_kh [(0,24)] (by kernel_rfl)) (OrcQ.nil _ _ _)) (fun _ _=>by kernel_rfl) x w y h
noncomputable def K_i6:RE:=funR [(0,.int .i64),(1,.int .i64)] [.int .i64] (fun x w=>K_6h x.1 x.2.1)
theorem K_sa:(K_i6).Ok prog 18:=K_6o K_ee fun x w y h=>K_p3 x w y h
noncomputable def K_mo (K:Nat):List (Nat×CE):=[]
theorem K_bp(K:Nat):Env.Ok prog (tab (K_mo K)):=(Env.nil _)
noncomputable def K_nf (K:Nat):List (Nat×RE):=[(12,K_cl),(18,K_i6)]
theorem K_bw(K:Nat):REnv.Ok prog (tab (K_nf K)):=(REnv.cons (K_gq) (REnv.cons (K_sa) (REnv.nil _)))
noncomputable def K_2p (K:Nat) (rec:Addr→Int→Sl→Int→World→Option ((Sl×Unit)×World)) (d1:Addr) (n3:Int) (b4:Sl) (i5:Int) (w:World):Option ((Sl×Unit)×World):=
 if (decide (i5<n3))=true then((ldS (d1.add 5) w).bind fun v_9=>
 if (((v_9.len:Nat):Int) == 0)=true then(bnd (bldS prog 23 1 #[(0,(.int .u8 (IntKind.u8.wrap (IntKind.i64.wrap ((IntKind.i64.wrap (i5*i5))+7)))))] w) fun s_10 w_11=>
 bnd (apd prog 23 23 (.slice b4.a b4.len b4.cap) (.slice s_10.a s_10.len s_10.cap) w_11) fun s_12 w_13=>
 rec d1 n3 s_12 (IntKind.i64.wrap (i5+1)) w_13) else((ldS (d1.add 5) w.drew).bind fun v_14=>
 (ldS (d1.add 5) w.drew).bind fun v_15=>
 if ((v_15.len:Nat):Int)≠0 then((v_14.a).bind fun p_16=>
 if (0:Int)≤(Int.tmod i5 ((v_15.len:Nat):Int))∧(Int.tmod i5 ((v_15.len:Nat):Int))<((v_14.len:Nat):Int) then((ldI .u8 (p_16.add ((Int.toNat (Int.tmod i5 ((v_15.len:Nat):Int)))*1)) w.drew).bind fun v_17=>
 (ldS (d1.add 5) w.drew).bind fun v_18=>
 if ((v_18.len:Nat):Int)≠0 then(bnd (bldS prog 23 1 #[(0,(.int .u8 (IntKind.u8.wrap (v_17+(IntKind.u8.wrap (IntKind.i64.wrap (Int.tdiv i5 ((v_18.len:Nat):Int))))))))] w.drew) fun s_19 w_20=>
 bnd (apd prog 23 23 (.slice b4.a b4.len b4.cap) (.slice s_19.a s_19.len s_19.cap) w_20) fun s_21 w_22=>
 rec d1 n3 s_21 (IntKind.i64.wrap (i5+1)) w_22) else none) else none) else none)) else(some ((b4,()),w))
noncomputable def K_s (K:Nat) (n:Nat):Addr→Int→Sl→Int→World→Option ((Sl×Unit)×World):=iter (fun _ _ _ _ _=>none) (K_2p K) n
noncomputable def K_3v (K:Nat) (d0:Array Value) (w:World):Option ((Sl×Unit)×World):=
 bnd (newB d0 25 w) fun p_1 w_2=>
 (ldB (p_1.add 4) w_2).bind fun v_3=>
 if v_3=true then((ldS (p_1.add 5) w_2).bind fun v_4=>
 (K_1b v_4 2000).bind fun r_5=>
 some ((r_5.1,()),w_2)) else((ldI .i64 (p_1.add 2) w_2).bind fun v_6=>
 (ldS (p_1.add 1) w_2).bind fun v_7=>
 (K_6h v_6 ((v_7.len:Nat):Int)).bind fun r_8=>
 bnd (K_s K K p_1 r_8.1 ⟨none,0,0⟩ 0 w_2) fun y_23 w_24=>
 some ((y_23.1,()),w_24))
theorem K_hl(K:Nat)(n:Nat):StmtNOk prog [(1,.addr),(3,.int .i64),(4,.sl),(5,.int .i64)] [(4,.sl)] [(4,6),(17,53)] ((fun n x w=>K_s K n x.1 x.2.1 x.2.2.1 x.2.2.2.1 w) n) (.block 0 (.loop (cd (bodyOf f13) [1,1,1,1,0,1,0,0]))):=
  K_9 (O:=tabL []) (root:=(bodyOf f13)) (π:=[1,1,1,1,0,1,0,0]) (Li:=[(1,.addr),(3,.int .i64),(4,.sl),(5,.int .i64)]) (Lo:=[(4,.sl)]) (S:=(fun n x w=>K_s K n x.1 x.2.1 x.2.2.1 x.2.2.2.1 w)) (K_bp K) (K_bw K) rfl (Orc.nil _ _ _) (by kernel_rfl) (fun _ _=>by kernel_rfl) (fun _ _ _=>by kernel_rfl) n
noncomputable def K_a0 (K:Nat):SE:=stmtN [(1,.addr),(3,.int .i64),(4,.sl),(5,.int .i64)] [(4,.sl)] [(4,6),(17,53)] (fun x w=>K_s K K x.1 x.2.1 x.2.2.1 x.2.2.2.1 w)
theorem K_eo(K:Nat)(R:Rg)(h:subRB [(4,6),(17,53)] R=true):(K_a0 K).Ok prog R (.block 0 (.loop (cd (bodyOf f13) [1,1,1,1,0,1,0,0]))):=K_2 (K_hl K K) (K_1 h)
theorem K_9v:FunFacts prog 13 f13 (bodyOf f13) [(0,.agg)] [(0,54)]:=⟨func13,by kernel_rfl,by kernel_rfl,by kernel_rfl,by kernel_rfl,by kernel_rfl⟩
theorem K_ho(K:Nat)(x:TT [(0,.agg)])(w:World)(y:TR [.sl])(w2:World)(h:K_3v K x.1 w=some (y,w2)):Calls prog 13 (encA [(0,.agg)] x).toArray w (fun e w3=>e= .returned (resV (encR [.sl] y))∧w3=w2):=
  K_h (O:=tabL [([1,1,1,1,0,1],K_a0 K)]) (Lp:=[(0,.agg)]) (Rt:=[.sl]) (S:=(fun x w=>K_3v K x.1 w)) (K_bp K) (K_bw K) rfl K_9v (Orc.cons (by kernel_rfl) (K_eo K [(0,54)] (by kernel_rfl)) (Orc.nil _ _ _)) (fun _ _=>by kernel_rfl) x w y w2 h
noncomputable def K_c2 (K:Nat):CE:=funE [(0,.agg)] [.sl] (fun x w=>K_3v K x.1 w)
theorem K_kz(K:Nat):(K_c2 K).Ok prog 13:=K_b K_9v fun x w y w2 h=>K_ho K x w y w2 h
noncomputable def K_o8 (n0:Int):Option (Out (Bool×Unit) (Int×Unit)):=
 if (decide (n0<1))=true then(some (.norm (true,()))) else(some (.norm ((decide (n0 > 64)),())))
noncomputable def K_ok (n0:Int) (need1:Int) (count2:Int):Option (Int×Unit):=
 (K_o8 n0).bind fun y_1=>
 (match y_1 with
 | .norm z_2n=>(if z_2n.1=true then(some (111,())) else(if (decide (need1<1))=true then(some (110,())) else(if (decide (need1 > 16))=true then(some (110,())) else(if (decide (count2<need1))=true then(some (110,())) else(if (decide (count2 > 255))=true then(some (110,())) else(some (0,())))))))
 | .ret z_2r=>(some (z_2r.1,())))
end Go.Sh

namespace Go.Sh
open Go.Fw Go.Proofs.Tryd
end Go.Sh

namespace Go.Sh
open Go.Fw Go.Proofs.Tryd
end Go.Sh

namespace Go.Sh
open Go.Fw Go.Proofs.Tryd
noncomputable def K_x8:List (Nat×RE):=[]
theorem K_js:REnv.Ok prog (tab (K_x8)):=(REnv.nil _)
noncomputable def K_ep (secret0:Sl):Option (Out (Bool×Unit) (Int×Unit)):=
 if (decide (((secret0.len:Nat):Int)<1))=true then(some (.norm (true,()))) else(some (.norm ((decide (((secret0.len:Nat):Int) > 64)),())))
noncomputable def K_cb (secret0:Sl) (need1:Int) (count2:Int):Option (Int×Unit):=
 (K_ep secret0).bind fun y_1=>
 (match y_1 with
 | .norm z_2n=>(if z_2n.1=true then(some (111,())) else(if (decide (need1<1))=true then(some (110,())) else(if (decide (need1 > 16))=true then(some (110,())) else(if (decide (count2<need1))=true then(some (110,())) else(if (decide (count2 > 255))=true then(some (110,())) else(some (0,())))))))
 | .ret z_2r=>(some (z_2r.1,())))
theorem K_r3:StmtQOk prog [(0,.sl)] [(7,.bool)] [(6,.int .i64)] [(7,16)] (fun x w=>K_ep x.1) (cd (bodyOf f51) [1,0,0,0]):=
  K_l7 (O:=tabL []) (root:=(bodyOf f51)) (π:=[1,0,0,0]) (K_js) (OrcQ.nil _ _ _) (by kernel_rfl) (fun _ _=>by kernel_rfl)
noncomputable def K_gk:SQ:=stmtQ [(0,.sl)] [(7,.bool)] [(6,.int .i64)] [(7,16)] (fun x w=>K_ep x.1)
theorem K_mr(R:Rg)(h:subRB [(7,16)] R=true):(K_gk).Ok prog R (cd (bodyOf f51) [1,0,0,0]):=K_9b (K_r3) (K_1 h)
theorem K_h4:FunFacts prog 51 f51 (bodyOf f51) [(0,.sl),(1,.int .i64),(2,.int .i64)] [(0,32)]:=⟨func51,by kernel_rfl,by kernel_rfl,by kernel_rfl,by kernel_rfl,by kernel_rfl⟩
theorem K_r9(x:TT [(0,.sl),(1,.int .i64),(2,.int .i64)])(w:World)(y:TR [.int .i64])(h:K_cb x.1 x.2.1 x.2.2.1=some y):Calls prog 51 (encA [(0,.sl),(1,.int .i64),(2,.int .i64)] x).toArray w (fun e w3=>e= .returned (resV (encR [.int .i64] y))∧w3=w):=
  K_6p (O:=tabL [([1,0,0,0],K_gk)]) (Lp:=[(0,.sl),(1,.int .i64),(2,.int .i64)]) (Rt:=[.int .i64]) (S:=(fun x w=>K_cb x.1 x.2.1 x.2.2.1)) (K_js) K_h4 (OrcQ.cons (by kernel_rfl) (K_mr [(0,32)] (by kernel_rfl)) (OrcQ.nil _ _ _)) (fun _ _=>by kernel_rfl) x w y h
noncomputable def K_mj:RE:=funR [(0,.sl),(1,.int .i64),(2,.int .i64)] [.int .i64] (fun x w=>K_cb x.1 x.2.1 x.2.2.1)
theorem K_vl:(K_mj).Ok prog 51:=K_6o K_h4 fun x w y h=>K_r9 x w y h
noncomputable def K_t9:List (Nat×RE):=[]
theorem K_ex:REnv.Ok prog (tab (K_t9)):=(REnv.nil _)
noncomputable def K_b1 (need0:Int) (size1:Int):Option (Out (Bool×Unit) (Int×Unit)):=
 if (decide (need0<1))=true then(some (.norm (true,()))) else(if (decide (need0 > 16))=true then(some (.norm (true,()))) else(if (decide (size1<1))=true then(some (.norm (true,()))) else(some (.norm ((decide (size1 > 64)),())))))
noncomputable def K_8h (need0:Int) (size1:Int):Option (Int×Unit):=
 (K_b1 need0 size1).bind fun y_1=>
 (match y_1 with
 | .norm z_2n=>(if z_2n.1=true then(some (0,())) else(some ((IntKind.i64.wrap ((IntKind.i64.wrap (need0 - 1))*(IntKind.i64.wrap (size1+4)))),())))
 | .ret z_2r=>(some (z_2r.1,())))
theorem K_n0:StmtQOk prog [(0,.int .i64),(1,.int .i64)] [(18,.bool)] [(4,.int .i64)] [(5,19)] (fun x w=>K_b1 x.1 x.2.1) (cd (bodyOf f17) [1,0,0]):=
  K_l7 (O:=tabL []) (root:=(bodyOf f17)) (π:=[1,0,0]) (K_ex) (OrcQ.nil _ _ _) (by kernel_rfl) (fun _ _=>by kernel_rfl)
noncomputable def K_d9:SQ:=stmtQ [(0,.int .i64),(1,.int .i64)] [(18,.bool)] [(4,.int .i64)] [(5,19)] (fun x w=>K_b1 x.1 x.2.1)
theorem K_i8(R:Rg)(h:subRB [(5,19)] R=true):(K_d9).Ok prog R (cd (bodyOf f17) [1,0,0]):=K_9b (K_n0) (K_1 h)
theorem K_d6:FunFacts prog 17 f17 (bodyOf f17) [(0,.int .i64),(1,.int .i64)] [(0,24)]:=⟨func17,by kernel_rfl,by kernel_rfl,by kernel_rfl,by kernel_rfl,by kernel_rfl⟩
theorem K_n9(x:TT [(0,.int .i64),(1,.int .i64)])(w:World)(y:TR [.int .i64])(h:K_8h x.1 x.2.1=some y):Calls prog 17 (encA [(0,.int .i64),(1,.int .i64)] x).toArray w (fun e w3=>e= .returned (resV (encR [.int .i64] y))∧w3=w):=
  K_6p (O:=tabL [([1,0,0],K_d9)]) (Lp:=[(0,.int .i64),(1,.int .i64)]) (Rt:=[.int .i64]) (S:=(fun x w=>K_8h x.1 x.2.1)) (K_ex) K_d6 (OrcQ.cons (by kernel_rfl) (K_i8 [(0,24)] (by kernel_rfl)) (OrcQ.nil _ _ _)) (fun _ _=>by kernel_rfl) x w y h
noncomputable def K_gi:RE:=funR [(0,.int .i64),(1,.int .i64)] [.int .i64] (fun x w=>K_8h x.1 x.2.1)
theorem K_rs:(K_gi).Ok prog 17:=K_6o K_d6 fun x w y h=>K_n9 x w y h
noncomputable def K_ss:List (Nat×CE):=[]
theorem K_ac:Env.Ok prog (tab (K_ss)):=(Env.nil _)
noncomputable def K_t1:List (Nat×RE):=[]
theorem K_a4:REnv.Ok prog (tab (K_t1)):=(REnv.nil _)
noncomputable def K_2t (a4:Int) (a5:Bool) (w:World):Option ((Bool×Unit)×World):=
 if a5=true then(some ((true,()),w)) else(some (((a4 == 256),()),w))
noncomputable def K_2u (a4:Int) (a11:Bool) (w:World):Option ((Bool×Unit)×World):=
 if a11=true then(some ((true,()),w)) else(some (((a4 == 512),()),w))
noncomputable def K_6q (hash0:Int) (w:World):Option (((Array Value)×Bool×Unit)×World):=
 bnd (newB z138 138 w) fun p_1 w_2=>
 bnd (K_2t hash0 (hash0 == 224) w_2) fun y_3 w_4=>
 if y_3.1=true then((prog.built 138 [(0,(.int .i64 (IntKind.i64.wrap (Int.tdiv hash0 8)))),(1,(.int .i64 64)),(2,(.int .i64 4)),(3,(.func (.func 113) #[] #[]))]).bind fun cs_5=>
 if (cs_5).size=4 then((stA p_1 cs_5 w_4).bind fun w_6=>
 (ldA 4 p_1 w_6).bind fun res_7=>
 some ((res_7,true,()),w_6)) else none) else(bnd (K_2u hash0 (hash0 == 384) w_4) fun y_8 w_9=>
 if y_8.1=true then((prog.built 138 [(0,(.int .i64 (IntKind.i64.wrap (Int.tdiv hash0 8)))),(1,(.int .i64 128)),(2,(.int .i64 8)),(3,(.func (.func 114) #[] #[]))]).bind fun cs_10=>
 if (cs_10).size=4 then((stA p_1 cs_10 w_9).bind fun w_11=>
 (ldA 4 p_1 w_11).bind fun res_12=>
 some ((res_12,true,()),w_11)) else none) else((prog.built 138 []).bind fun cs_13=>
 if (cs_13).size=4 then((stA p_1 cs_13 w_9).bind fun w_14=>
 (ldA 4 p_1 w_14).bind fun res_15=>
 some ((res_15,false,()),w_14)) else none))
theorem K_nc:StmtNOk prog [(4,.int .i64),(5,.bool)] [(5,.bool)] [(5,6),(7,8)] (fun x w=>K_2t x.1 x.2.1 w) (cd (bodyOf f88) [1,0,1,0,0,1]):=
  K_y (O:=tabL []) (root:=(bodyOf f88)) (π:=[1,0,1,0,0,1]) (K_ac) (K_a4) rfl (Orc.nil _ _ _) (by kernel_rfl) (fun _ _=>by kernel_rfl)
noncomputable def K_cx:SE:=stmtN [(4,.int .i64),(5,.bool)] [(5,.bool)] [(5,6),(7,8)] (fun x w=>K_2t x.1 x.2.1 w)
theorem K_ie(R:Rg)(h:subRB [(5,6),(7,8)] R=true):(K_cx).Ok prog R (cd (bodyOf f88) [1,0,1,0,0,1]):=K_2 (K_nc) (K_1 h)
theorem K_n3:StmtNOk prog [(4,.int .i64),(11,.bool)] [(11,.bool)] [(11,12),(13,14)] (fun x w=>K_2u x.1 x.2.1 w) (cd (bodyOf f88) [1,0,1,0,1,1,0,1]):=
  K_y (O:=tabL []) (root:=(bodyOf f88)) (π:=[1,0,1,0,1,1,0,1]) (K_ac) (K_a4) rfl (Orc.nil _ _ _) (by kernel_rfl) (fun _ _=>by kernel_rfl)
noncomputable def K_cw:SE:=stmtN [(4,.int .i64),(11,.bool)] [(11,.bool)] [(11,12),(13,14)] (fun x w=>K_2u x.1 x.2.1 w)
theorem K_iu(R:Rg)(h:subRB [(11,12),(13,14)] R=true):(K_cw).Ok prog R (cd (bodyOf f88) [1,0,1,0,1,1,0,1]):=K_2 (K_n3) (K_1 h)
theorem K_d7:FunFacts prog 88 f88 (bodyOf f88) [(0,.int .i64)] [(0,18)]:=⟨func88,by kernel_rfl,by kernel_rfl,by kernel_rfl,by kernel_rfl,by kernel_rfl⟩
theorem K_n2(x:TT [(0,.int .i64)])(w:World)(y:TR [.agg,.bool])(w2:World)(h:K_6q x.1 w=some (y,w2)):Calls prog 88 (encA [(0,.int .i64)] x).toArray w (fun e w3=>e= .returned (resV (encR [.agg,.bool] y))∧w3=w2):=
  K_h (O:=tabL [([1,0,1,0,0,1],K_cx),([1,0,1,0,1,1,0,1],K_cw)]) (Lp:=[(0,.int .i64)]) (Rt:=[.agg,.bool]) (S:=(fun x w=>K_6q x.1 w)) (K_ac) (K_a4) rfl K_d7 (Orc.cons (by kernel_rfl) (K_ie [(0,18)] (by kernel_rfl)) (Orc.cons (by kernel_rfl) (K_iu [(0,18)] (by kernel_rfl)) (Orc.nil _ _ _))) (fun _ _=>by kernel_rfl) x w y w2 h
noncomputable def K_gm:CE:=funE [(0,.int .i64)] [.agg,.bool] (fun x w=>K_6q x.1 w)
theorem K_qp:(K_gm).Ok prog 88:=K_b K_d7 fun x w y w2 h=>K_n2 x w y w2 h
noncomputable def K_tw (K:Nat):List (Nat×CE):=[]
theorem K_ga(K:Nat):Env.Ok prog (tab (K_tw K)):=(Env.nil _)
noncomputable def K_ts (K:Nat):List (Nat×RE):=[]
theorem K_gc(K:Nat):REnv.Ok prog (tab (K_ts K)):=(REnv.nil _)
noncomputable def K_1e (K:Nat) (rec:Int→Addr→Int→World→Option ((Unit)×World)) (hash0:Int) (out2:Addr) (a4:Int) (w:World):Option ((Unit)×World):=
 if (decide (a4<8))=true then(if (hash0 == 224)=true then(if (0:Int)≤(IntKind.i64.wrap (8+a4))∧(IntKind.i64.wrap (8+a4))<((16:Nat):Int) then((ldI .u64 ((⟨4,0,none⟩:Addr).add ((Int.toNat (IntKind.i64.wrap (8+a4)))*1)) w).bind fun v_3=>
 if (0:Int)≤a4∧a4<((8:Nat):Int) then((stC (out2.add ((Int.toNat a4)*1)) (.int .u64 (bits .and .u64 v_3 4294967295)) w).bind fun w_4=>
 rec hash0 out2 (IntKind.i64.wrap (a4+1)) w_4) else none) else none) else(if (hash0 == 256)=true then(if (0:Int)≤a4∧a4<((16:Nat):Int) then((ldI .u64 ((⟨4,0,none⟩:Addr).add ((Int.toNat a4)*1)) w).bind fun v_5=>
 if (0:Int)≤a4∧a4<((8:Nat):Int) then((stC (out2.add ((Int.toNat a4)*1)) (.int .u64 (Int.fdiv v_5 (2 ^ 32))) w).bind fun w_6=>
 rec hash0 out2 (IntKind.i64.wrap (a4+1)) w_6) else none) else none) else(if (hash0 == 384)=true then(if (0:Int)≤(IntKind.i64.wrap (8+a4))∧(IntKind.i64.wrap (8+a4))<((16:Nat):Int) then((ldI .u64 ((⟨4,0,none⟩:Addr).add ((Int.toNat (IntKind.i64.wrap (8+a4)))*1)) w).bind fun v_7=>
 if (0:Int)≤a4∧a4<((8:Nat):Int) then((stC (out2.add ((Int.toNat a4)*1)) (.int .u64 v_7) w).bind fun w_8=>
 rec hash0 out2 (IntKind.i64.wrap (a4+1)) w_8) else none) else none) else(if (hash0 == 512)=true then(if (0:Int)≤a4∧a4<((16:Nat):Int) then((ldI .u64 ((⟨4,0,none⟩:Addr).add ((Int.toNat a4)*1)) w).bind fun v_9=>
 if (0:Int)≤a4∧a4<((8:Nat):Int) then((stC (out2.add ((Int.toNat a4)*1)) (.int .u64 v_9) w).bind fun w_10=>
 rec hash0 out2 (IntKind.i64.wrap (a4+1)) w_10) else none) else none) else(rec hash0 out2 (IntKind.i64.wrap (a4+1)) w))))) else(some ((),w))
noncomputable def K_v (K:Nat) (n:Nat):Int→Addr→Int→World→Option ((Unit)×World):=iter (fun _ _ _ _=>none) (K_1e K) n
noncomputable def K_4q (K:Nat) (hash0:Int) (w:World):Option (((Array Value)×Unit)×World):=
 bnd (newB z150 150 w) fun out_1 w_2=>
 bnd (K_v K K hash0 out_1 0 w_2) fun y_11 w_12=>
 (ldA 8 out_1 w_12).bind fun v_13=>
 if (v_13).size=8 then((stA out_1 v_13 w_12).bind fun w_14=>
 (ldA 8 out_1 w_14).bind fun res_15=>
 some ((res_15,()),w_14)) else none
theorem K_ny(K:Nat)(n:Nat):StmtNOk prog [(0,.int .i64),(2,.addr),(4,.int .i64)] [] [(3,41)] ((fun n x w=>K_v K n x.1 x.2.1 x.2.2.1 w) n) (.block 0 (.loop (cd (bodyOf f136) [1,0,1,0,0]))):=
  K_9 (O:=tabL []) (root:=(bodyOf f136)) (π:=[1,0,1,0,0]) (Li:=[(0,.int .i64),(2,.addr),(4,.int .i64)]) (Lo:=[]) (S:=(fun n x w=>K_v K n x.1 x.2.1 x.2.2.1 w)) (K_ga K) (K_gc K) rfl (Orc.nil _ _ _) (by kernel_rfl) (fun _ _=>by kernel_rfl) (fun _ _ _=>by kernel_rfl) n
noncomputable def K_e5 (K:Nat):SE:=stmtN [(0,.int .i64),(2,.addr),(4,.int .i64)] [] [(3,41)] (fun x w=>K_v K K x.1 x.2.1 x.2.2.1 w)
theorem K_k4(K:Nat)(R:Rg)(h:subRB [(3,41)] R=true):(K_e5 K).Ok prog R (.block 0 (.loop (cd (bodyOf f136) [1,0,1,0,0]))):=K_2 (K_ny K K) (K_1 h)
theorem K_ec:FunFacts prog 136 f136 (bodyOf f136) [(0,.int .i64)] [(0,42)]:=⟨func136,by kernel_rfl,by kernel_rfl,by kernel_rfl,by kernel_rfl,by kernel_rfl⟩
theorem K_oi(K:Nat)(x:TT [(0,.int .i64)])(w:World)(y:TR [.agg])(w2:World)(h:K_4q K x.1 w=some (y,w2)):Calls prog 136 (encA [(0,.int .i64)] x).toArray w (fun e w3=>e= .returned (resV (encR [.agg] y))∧w3=w2):=
  K_h (O:=tabL [([1,0,1],K_e5 K)]) (Lp:=[(0,.int .i64)]) (Rt:=[.agg]) (S:=(fun x w=>K_4q K x.1 w)) (K_ga K) (K_gc K) rfl K_ec (Orc.cons (by kernel_rfl) (K_k4 K [(0,42)] (by kernel_rfl)) (Orc.nil _ _ _)) (fun _ _=>by kernel_rfl) x w y w2 h
noncomputable def K_i1 (K:Nat):CE:=funE [(0,.int .i64)] [.agg] (fun x w=>K_4q K x.1 w)
theorem K_sw(K:Nat):(K_i1 K).Ok prog 136:=K_b K_ec fun x w y w2 h=>K_oi K x w y w2 h
noncomputable def K_u6 (K:Nat):List (Nat×CE):=[(88,K_gm),(136,K_i1 K)]
theorem K_r8(K:Nat):Env.Ok prog (tab (K_u6 K)):=(Env.cons (K_qp) (Env.cons (K_sw K) (Env.nil _)))
noncomputable def K_u5 (K:Nat):List (Nat×RE):=[]
theorem K_r2(K:Nat):REnv.Ok prog (tab (K_u5 K)):=(REnv.nil _)
noncomputable def K_7o (K:Nat) (hash0:Int) (w:World):Option (((Array Value)×Bool×Unit)×World):=
 bnd (newB z180 180 w) fun p_1 w_2=>
 bnd (K_6q hash0 w_2) fun r_3 w_4=>
 bnd (newB z138 138 w_4) fun k_5 w_6=>
 if (r_3.1).size=4 then((stA k_5 r_3.1 w_6).bind fun w_7=>
 (ldA 4 k_5 w_7.drew).bind fun v_8=>
 bnd (K_4q K hash0 w_7.drew) fun r_9 w_10=>
 (ldA 4 k_5 w_10).bind fun v_11=>
 sameK (.agg v_8) (.agg v_11) ((prog.built 180 [(0,(.agg v_8)),(1,(.int .i64 hash0)),(3,(.agg r_9.1))]).bind fun cs_12=>
 if (cs_12).size=142 then((stA p_1 cs_12 w_10).bind fun w_13=>
 (ldA 142 p_1 w_13).bind fun res_14=>
 some ((res_14,r_3.2.1,()),w_13)) else none)) else none
theorem K_dz:FunFacts prog 126 f126 (bodyOf f126) [(0,.int .i64)] [(0,17)]:=⟨func126,by kernel_rfl,by kernel_rfl,by kernel_rfl,by kernel_rfl,by kernel_rfl⟩
theorem K_on(K:Nat)(x:TT [(0,.int .i64)])(w:World)(y:TR [.agg,.bool])(w2:World)(h:K_7o K x.1 w=some (y,w2)):Calls prog 126 (encA [(0,.int .i64)] x).toArray w (fun e w3=>e= .returned (resV (encR [.agg,.bool] y))∧w3=w2):=
  K_h (O:=tabL []) (Lp:=[(0,.int .i64)]) (Rt:=[.agg,.bool]) (S:=(fun x w=>K_7o K x.1 w)) (K_r8 K) (K_r2 K) rfl K_dz (Orc.nil _ _ _) (fun _ _=>by kernel_rfl) x w y w2 h
noncomputable def K_hz (K:Nat):CE:=funE [(0,.int .i64)] [.agg,.bool] (fun x w=>K_7o K x.1 w)
theorem K_sn(K:Nat):(K_hz K).Ok prog 126:=K_b K_dz fun x w y w2 h=>K_on K x w y w2 h
noncomputable def K_wv (K:Nat):List (Nat×CE):=[(126,K_hz K)]
theorem K_tm(K:Nat):Env.Ok prog (tab (K_wv K)):=(Env.cons (K_sn K) (Env.nil _))
noncomputable def K_x0 (K:Nat):List (Nat×RE):=[]
theorem K_tn(K:Nat):REnv.Ok prog (tab (K_x0 K)):=(REnv.nil _)
noncomputable def K_86 (K:Nat) (hash0:Int) (w:World):Option (((Option Addr)×Int×Unit)×World):=
 bnd (K_7o K hash0 w) fun r_1 w_2=>
 bnd (newB z180 180 w_2) fun s_3 w_4=>
 if (r_1.1).size=142 then((stA s_3 r_1.1 w_4).bind fun w_5=>
 if (!r_1.2.1)=true then(some ((none,10,()),w_5)) else((ldA 142 s_3 w_5).bind fun v_6=>
 (prog.built 184 [(0,(.agg v_6))]).bind fun cs_7=>
 bnd (newB cs_7 184 w_5) fun p_8 w_9=>
 some (((some p_8),0,()),w_9))) else none
theorem K_h9:FunFacts prog 105 f105 (bodyOf f105) [(0,.int .i64)] [(0,16)]:=⟨func105,by kernel_rfl,by kernel_rfl,by kernel_rfl,by kernel_rfl,by kernel_rfl⟩
theorem K_qt(K:Nat)(x:TT [(0,.int .i64)])(w:World)(y:TR [.ptr,.int .i64])(w2:World)(h:K_86 K x.1 w=some (y,w2)):Calls prog 105 (encA [(0,.int .i64)] x).toArray w (fun e w3=>e= .returned (resV (encR [.ptr,.int .i64] y))∧w3=w2):=
  K_h (O:=tabL []) (Lp:=[(0,.int .i64)]) (Rt:=[.ptr,.int .i64]) (S:=(fun x w=>K_86 K x.1 w)) (K_tm K) (K_tn K) rfl K_h9 (Orc.nil _ _ _) (fun _ _=>by kernel_rfl) x w y w2 h
noncomputable def K_mb (K:Nat):CE:=funE [(0,.int .i64)] [.ptr,.int .i64] (fun x w=>K_86 K x.1 w)
theorem K_va(K:Nat):(K_mb K).Ok prog 105:=K_b K_h9 fun x w y w2 h=>K_qt K x w y w2 h
noncomputable def K_th (K:Nat):List (Nat×RE):=[]
theorem K_ge(K:Nat):REnv.Ok prog (tab (K_th K)):=(REnv.nil _)
noncomputable def K_5g (K:Nat) (w:World) (rec:Int→Sl→Int→Int→Option (Out (Int×Unit) (Int×Unit))) (n3:Int) (a6:Sl) (a7:Int) (a8:Int):Option (Out (Int×Unit) (Int×Unit)):=
 if (decide (a8<a7))=true then((a6.a).bind fun p_1=>
 if (0:Int)≤a8∧a8<((a6.len:Nat):Int) then((ldS (p_1.add ((Int.toNat a8)*1)) w).bind fun v_2=>
 if (decide ((IntKind.i64.wrap (n3+((v_2.len:Nat):Int))) > 33554432))=true then(some (.norm ((IntKind.i64.wrap (n3+((v_2.len:Nat):Int))),()))) else(rec (IntKind.i64.wrap (n3+((v_2.len:Nat):Int))) a6 a7 (IntKind.i64.wrap (a8+1)))) else none) else(some (.norm (n3,())))
noncomputable def K_2h (K:Nat) (n:Nat) (n3:Int) (a6:Sl) (a7:Int) (a8:Int) (w:World):Option (Out (Int×Unit) (Int×Unit)):=iter (α:=Int→Sl→Int→Int→Option (Out (Int×Unit) (Int×Unit))) (fun _ _ _ _=>none) (K_5g K w) n n3 a6 a7 a8
noncomputable def K_7e (K:Nat) (parts0:Sl) (w:World):Option (Int×Unit):=
 (K_2h K K 0 parts0 ((parts0.len:Nat):Int) 0 w).bind fun y_3=>
 (match y_3 with
 | .norm z_4n=>(some (z_4n.1,()))
 | .ret z_4r=>(some (z_4r.1,())))
theorem K_o3(K:Nat)(n:Nat):StmtQOk prog [(3,.int .i64),(6,.sl),(7,.int .i64),(8,.int .i64)] [(3,.int .i64)] [(2,.int .i64)] [(3,4),(5,6),(8,19)] ((fun n x w=>K_2h K n x.1 x.2.1 x.2.2.1 x.2.2.2.1 w) n) (.block 0 (.loop (cd (bodyOf f127) [1,1,0,1,0,0]))):=
  K_l1 (O:=tabL []) (root:=(bodyOf f127)) (π:=[1,1,0,1,0,0]) (Li:=[(3,.int .i64),(6,.sl),(7,.int .i64),(8,.int .i64)]) (Lo:=[(3,.int .i64)]) (Lr:=[(2,.int .i64)]) (S:=(fun n x w=>K_2h K n x.1 x.2.1 x.2.2.1 x.2.2.2.1 w)) (K_ge K) (OrcQ.nil _ _ _) (by kernel_rfl) (fun _ _=>by kernel_rfl) (fun _ _ _=>by kernel_rfl) n
noncomputable def K_e9 (K:Nat):SQ:=stmtQ [(3,.int .i64),(6,.sl),(7,.int .i64),(8,.int .i64)] [(3,.int .i64)] [(2,.int .i64)] [(3,4),(5,6),(8,19)] (fun x w=>K_2h K K x.1 x.2.1 x.2.2.1 x.2.2.2.1 w)
theorem K_jj(K:Nat)(R:Rg)(h:subRB [(3,4),(5,6),(8,19)] R=true):(K_e9 K).Ok prog R (.block 0 (.loop (cd (bodyOf f127) [1,1,0,1,0,0]))):=K_9b (K_o3 K K) (K_1 h)
theorem K_e7:FunFacts prog 127 f127 (bodyOf f127) [(0,.sl)] [(0,20)]:=⟨func127,by kernel_rfl,by kernel_rfl,by kernel_rfl,by kernel_rfl,by kernel_rfl⟩
theorem K_p4(K:Nat)(x:TT [(0,.sl)])(w:World)(y:TR [.int .i64])(h:K_7e K x.1 w=some y):Calls prog 127 (encA [(0,.sl)] x).toArray w (fun e w3=>e= .returned (resV (encR [.int .i64] y))∧w3=w):=
  K_6p (O:=tabL [([1,1,0,1],K_e9 K)]) (Lp:=[(0,.sl)]) (Rt:=[.int .i64]) (S:=(fun x w=>K_7e K x.1 w)) (K_ge K) K_e7 (OrcQ.cons (by kernel_rfl) (K_jj K [(0,20)] (by kernel_rfl)) (OrcQ.nil _ _ _)) (fun _ _=>by kernel_rfl) x w y h
noncomputable def K_i5 (K:Nat):RE:=funR [(0,.sl)] [.int .i64] (fun x w=>K_7e K x.1 w)
theorem K_s7(K:Nat):(K_i5 K).Ok prog 127:=K_6o K_e7 fun x w y h=>K_p4 K x w y h
noncomputable def K_nd:List (Nat×RE):=[]
theorem K_ji:REnv.Ok prog (tab (K_nd)):=(REnv.nil _)
noncomputable def K_5 (x0:Int) (k1:Int):Option (Int×Unit):=
 if (0:Int)≤(bits .and .u64 (IntKind.u64.wrap k1) 63) then(if (0:Int)≤(IntKind.u64.wrap (64 - (bits .and .u64 (IntKind.u64.wrap k1) 63))) then(some ((bits .or .u64 (IntKind.u64.wrap (x0*2 ^ (min (Int.toNat (bits .and .u64 (IntKind.u64.wrap k1) 63)) IntKind.u64.bits))) (Int.fdiv x0 (2 ^ (min (Int.toNat (IntKind.u64.wrap (64 - (bits .and .u64 (IntKind.u64.wrap k1) 63)))) IntKind.u64.bits)))),())) else none) else none
theorem K_9z:FunFacts prog 133 f133 (bodyOf f133) [(0,.int .u64),(1,.int .i64)] [(0,17)]:=⟨func133,by kernel_rfl,by kernel_rfl,by kernel_rfl,by kernel_rfl,by kernel_rfl⟩
theorem K_hj(x:TT [(0,.int .u64),(1,.int .i64)])(w:World)(y:TR [.int .u64])(h:K_5 x.1 x.2.1=some y):Calls prog 133 (encA [(0,.int .u64),(1,.int .i64)] x).toArray w (fun e w3=>e= .returned (resV (encR [.int .u64] y))∧w3=w):=
  K_6p (O:=tabL []) (Lp:=[(0,.int .u64),(1,.int .i64)]) (Rt:=[.int .u64]) (S:=(fun x w=>K_5 x.1 x.2.1)) (K_ji) K_9z (OrcQ.nil _ _ _) (fun _ _=>by kernel_rfl) x w y h
noncomputable def K_c0:RE:=funR [(0,.int .u64),(1,.int .i64)] [.int .u64] (fun x w=>K_5 x.1 x.2.1)
theorem K_ln:(K_c0).Ok prog 133:=K_6o K_9z fun x w y h=>K_hj x w y h
end Go.Sh

namespace Go.Sh
open Go.Fw Go.Proofs.Tryd
noncomputable def K_v6 (K:Nat):List (Nat×CE):=[]
theorem K_3s(K:Nat):Env.Ok prog (tab (K_v6 K)):=(Env.nil _)
noncomputable def K_vh (K:Nat):List (Nat×RE):=[(133,K_c0)]
theorem K_3m(K:Nat):REnv.Ok prog (tab (K_vh K)):=(REnv.cons (K_ln) (REnv.nil _))
noncomputable def K_6g (K:Nat) (rec:Option Addr→Sl→Addr→Int→Int→Sl→Int→Int→World→Option ((Unit)×World)) (h0:Option Addr) (b1:Sl) (w4:Addr) (i5:Int) (a30:Int) (a39:Sl) (a40:Int) (a41:Int) (w:World):Option ((Unit)×World):=
 if (decide (a41<a40))=true then((a39.a).bind fun p_3=>
 if (0:Int)≤a41∧a41<((a39.len:Nat):Int) then((ldI .u8 (p_3.add ((Int.toNat a41)*1)) w).bind fun v_4=>
 if (0:Int)≤i5∧i5<((80:Nat):Int) then((ldI .u64 (w4.add ((Int.toNat i5)*1)) w).bind fun v_5=>
 if (0:Int)≤i5∧i5<((80:Nat):Int) then((stC (w4.add ((Int.toNat i5)*1)) (.int .u64 (bits .or .u64 (IntKind.u64.wrap (v_5*2 ^ 8)) (IntKind.u64.wrap v_4))) w).bind fun w_6=>
 rec h0 b1 w4 i5 a30 a39 a40 (IntKind.i64.wrap (a41+1)) w_6) else none) else none) else none) else(some ((),w))
noncomputable def K_3c (K:Nat) (n:Nat):Option Addr→Sl→Addr→Int→Int→Sl→Int→Int→World→Option ((Unit)×World):=iter (fun _ _ _ _ _ _ _ _ _=>none) (K_6g K) n
noncomputable def K_69 (K:Nat) (rec:Option Addr→Sl→Addr→Int→World→Option ((Unit)×World)) (h0:Option Addr) (b1:Sl) (w4:Addr) (a30:Int) (w:World):Option ((Unit)×World):=
 if (decide (a30<16))=true then(if (0:Int)≤(IntKind.i64.wrap ((IntKind.i64.wrap (8*a30))+8))∧(IntKind.i64.wrap ((IntKind.i64.wrap (8*a30))+8))≤((b1.cap:Nat):Int) then(if (0:Int)≤(IntKind.i64.wrap (8*a30))∧(IntKind.i64.wrap (8*a30))≤(((Int.toNat ((IntKind.i64.wrap ((IntKind.i64.wrap (8*a30))+8)))):Nat):Int) then(bnd (K_3c K K h0 b1 w4 a30 a30 ⟨(sla b1.a (Int.toNat ((IntKind.i64.wrap (8*a30)))) b1.cap 1),((Int.toNat ((IntKind.i64.wrap ((IntKind.i64.wrap (8*a30))+8)))) - (Int.toNat ((IntKind.i64.wrap (8*a30))))),(b1.cap - (Int.toNat ((IntKind.i64.wrap (8*a30)))))⟩ ((((Int.toNat ((IntKind.i64.wrap ((IntKind.i64.wrap (8*a30))+8)))) - (Int.toNat ((IntKind.i64.wrap (8*a30))))):Nat):Int) 0 w) fun y_7 w_8=>
 rec h0 b1 w4 (IntKind.i64.wrap (a30+1)) w_8) else none) else none) else(some ((),w))
noncomputable def K_3d (K:Nat) (n:Nat):Option Addr→Sl→Addr→Int→World→Option ((Unit)×World):=iter (fun _ _ _ _ _=>none) (K_69 K) n
noncomputable def K_6d (K:Nat) (rec:Option Addr→Sl→Addr→Int→World→Option ((Unit)×World)) (h0:Option Addr) (b1:Sl) (w4:Addr) (i8:Int) (w:World):Option ((Unit)×World):=
 if (decide (i8<80))=true then(if (0:Int)≤(IntKind.i64.wrap (i8 - 15))∧(IntKind.i64.wrap (i8 - 15))<((80:Nat):Int) then(if (0:Int)≤(IntKind.i64.wrap (i8 - 2))∧(IntKind.i64.wrap (i8 - 2))<((80:Nat):Int) then((ldI .u64 (w4.add ((Int.toNat (IntKind.i64.wrap (i8 - 15)))*1)) w.drew).bind fun v_11=>
 (ldI .u64 (w4.add ((Int.toNat (IntKind.i64.wrap (i8 - 2)))*1)) w.drew).bind fun v_12=>
 if (0:Int)≤(IntKind.i64.wrap (i8 - 16))∧(IntKind.i64.wrap (i8 - 16))<((80:Nat):Int) then(if (0:Int)≤(IntKind.i64.wrap (i8 - 7))∧(IntKind.i64.wrap (i8 - 7))<((80:Nat):Int) then((ldI .u64 (w4.add ((Int.toNat (IntKind.i64.wrap (i8 - 16)))*1)) w.drew.drew).bind fun v_13=>
 (ldI .u64 (w4.add ((Int.toNat (IntKind.i64.wrap (i8 - 7)))*1)) w.drew.drew).bind fun v_14=>
 (K_5 v_11 (-1)).bind fun r_15=>
 (K_5 v_11 (-8)).bind fun r_16=>
 (K_5 v_12 (-19)).bind fun r_17=>
 (K_5 v_12 (-61)).bind fun r_18=>
 if (0:Int)≤i8∧i8<((80:Nat):Int) then((stC (w4.add ((Int.toNat i8)*1)) (.int .u64 (IntKind.u64.wrap ((IntKind.u64.wrap ((IntKind.u64.wrap (v_13+v_14))+(bits .xor .u64 (bits .xor .u64 r_15.1 r_16.1) (Int.fdiv v_11 (2 ^ 7)))))+(bits .xor .u64 (bits .xor .u64 r_17.1 r_18.1) (Int.fdiv v_12 (2 ^ 6)))))) w.drew.drew).bind fun w_19=>
 rec h0 b1 w4 (IntKind.i64.wrap (i8+1)) w_19) else none) else none) else none) else none) else none) else(some ((),w))
noncomputable def K_2w (K:Nat) (n:Nat):Option Addr→Sl→Addr→Int→World→Option ((Unit)×World):=iter (fun _ _ _ _ _=>none) (K_6d K) n
noncomputable def K_64 (K:Nat) (rec:Option Addr→Sl→Addr→Int→Int→Int→Int→Int→Int→Int→Int→Array Value→Int→World→Option ((Int×Int×Int×Int×Int×Int×Int×Int×Unit)×World)) (h0:Option Addr) (b1:Sl) (w4:Addr) (a11:Int) (b112:Int) (c13:Int) (d14:Int) (e15:Int) (f16:Int) (g17:Int) (k18:Int) (a129:Array Value) (a130:Int) (w:World):Option ((Int×Int×Int×Int×Int×Int×Int×Int×Unit)×World):=
 if (decide (a130<80))=true then(if (0:Int)≤a130∧a130<((80:Nat):Int) then((a129[((Int.toNat a130)*1)]?).bind fun v_39=>
 (asI .u64 v_39).bind fun v_40=>
 if (0:Int)≤a130∧a130<((80:Nat):Int) then((K_5 e15 (-14)).bind fun r_41=>
 (K_5 e15 (-18)).bind fun r_42=>
 (K_5 e15 (-41)).bind fun r_43=>
 (ldI .u64 (w4.add ((Int.toNat a130)*1)) w.drew).bind fun v_44=>
 (K_5 a11 (-28)).bind fun r_45=>
 (K_5 a11 (-34)).bind fun r_46=>
 (K_5 a11 (-39)).bind fun r_47=>
 rec h0 b1 w4 (IntKind.u64.wrap ((IntKind.u64.wrap ((IntKind.u64.wrap ((IntKind.u64.wrap ((IntKind.u64.wrap (k18+(bits .xor .u64 (bits .xor .u64 r_41.1 r_42.1) r_43.1)))+(bits .xor .u64 (bits .and .u64 e15 f16) (bits .and .u64 (bits .xor .u64 IntKind.u64.max e15) g17))))+v_40))+v_44))+(IntKind.u64.wrap ((bits .xor .u64 (bits .xor .u64 r_45.1 r_46.1) r_47.1)+(bits .xor .u64 (bits .xor .u64 (bits .and .u64 a11 b112) (bits .and .u64 a11 c13)) (bits .and .u64 b112 c13)))))) a11 b112 c13 (IntKind.u64.wrap (d14+(IntKind.u64.wrap ((IntKind.u64.wrap ((IntKind.u64.wrap ((IntKind.u64.wrap (k18+(bits .xor .u64 (bits .xor .u64 r_41.1 r_42.1) r_43.1)))+(bits .xor .u64 (bits .and .u64 e15 f16) (bits .and .u64 (bits .xor .u64 IntKind.u64.max e15) g17))))+v_40))+v_44)))) e15 f16 g17 a129 (IntKind.i64.wrap (a130+1)) w.drew) else none) else none) else(some ((a11,b112,c13,d14,e15,f16,g17,k18,()),w))
noncomputable def K_32 (K:Nat) (n:Nat):Option Addr→Sl→Addr→Int→Int→Int→Int→Int→Int→Int→Int→Array Value→Int→World→Option ((Int×Int×Int×Int×Int×Int×Int×Int×Unit)×World):=iter (fun _ _ _ _ _ _ _ _ _ _ _ _ _ _=>none) (K_64 K) n
noncomputable def K_61 (K:Nat) (rec:Option Addr→Sl→Addr→Array Value→Int→World→Option ((Unit)×World)) (h0:Option Addr) (b1:Sl) (w4:Addr) (a200:Array Value) (a201:Int) (w:World):Option ((Unit)×World):=
 if (decide (a201<8))=true then(if (0:Int)≤a201∧a201<((8:Nat):Int) then((a200[((Int.toNat a201)*1)]?).bind fun v_51=>
 (asI .u64 v_51).bind fun v_52=>
 (h0).bind fun p_53=>
 if (0:Int)≤a201∧a201<((8:Nat):Int) then((h0).bind fun p_54=>
 (ldI .u64 (p_53.add ((Int.toNat a201)*1)) w.drew).bind fun v_55=>
 if (0:Int)≤a201∧a201<((8:Nat):Int) then((stC (p_54.add ((Int.toNat a201)*1)) (.int .u64 (IntKind.u64.wrap (v_55+v_52))) w.drew).bind fun w_56=>
 rec h0 b1 w4 a200 (IntKind.i64.wrap (a201+1)) w_56) else none) else none) else none) else(some ((),w))
noncomputable def K_30 (K:Nat) (n:Nat):Option Addr→Sl→Addr→Array Value→Int→World→Option ((Unit)×World):=iter (fun _ _ _ _ _ _=>none) (K_61 K) n
noncomputable def K_1j (K:Nat) (rec:Option Addr→Sl→Addr→World→Option ((Unit)×World)) (h0:Option Addr) (b1:Sl) (w4:Addr) (w:World):Option ((Unit)×World):=
 if (decide (((b1.len:Nat):Int)≥128))=true then(bnd (K_3d K K h0 b1 w4 0 w) fun y_9 w_10=>
 bnd (K_2w K K h0 b1 w4 16 w_10) fun y_20 w_21=>
 (h0).bind fun p_22=>
 (h0).bind fun p_23=>
 (h0).bind fun p_24=>
 (h0).bind fun p_25=>
 (h0).bind fun p_26=>
 (h0).bind fun p_27=>
 (h0).bind fun p_28=>
 (h0).bind fun p_29=>
 (ldI .u64 (p_22.add (0*1)) w_21.drew).bind fun v_30=>
 (ldI .u64 (p_23.add (1*1)) w_21.drew).bind fun v_31=>
 (ldI .u64 (p_24.add (2*1)) w_21.drew).bind fun v_32=>
 (ldI .u64 (p_25.add (3*1)) w_21.drew).bind fun v_33=>
 (ldI .u64 (p_26.add (4*1)) w_21.drew).bind fun v_34=>
 (ldI .u64 (p_27.add (5*1)) w_21.drew).bind fun v_35=>
 (ldI .u64 (p_28.add (6*1)) w_21.drew).bind fun v_36=>
 (ldI .u64 (p_29.add (7*1)) w_21.drew).bind fun v_37=>
 (ldA 80 (⟨3,0,none⟩:Addr) w_21.drew).bind fun v_38=>
 bnd (K_32 K K h0 b1 w4 v_30 v_31 v_32 v_33 v_34 v_35 v_36 v_37 v_38 0 w_21.drew) fun y_48 w_49=>
 (prog.built 150 [(0,(.int .u64 y_48.1)),(1,(.int .u64 y_48.2.1)),(2,(.int .u64 y_48.2.2.1)),(3,(.int .u64 y_48.2.2.2.1)),(4,(.int .u64 y_48.2.2.2.2.1)),(5,(.int .u64 y_48.2.2.2.2.2.1)),(6,(.int .u64 y_48.2.2.2.2.2.2.1)),(7,(.int .u64 y_48.2.2.2.2.2.2.2.1))]).bind fun cs_50=>
 bnd (K_30 K K h0 b1 w4 cs_50 0 w_49) fun y_57 w_58=>
 if (0:Int)≤128∧128≤((b1.len:Nat):Int) then(rec h0 ⟨(sla b1.a 128 b1.cap 1),(b1.len - 128),(b1.cap - 128)⟩ w4 w_58) else none) else(some ((),w))
noncomputable def K_1g (K:Nat) (n:Nat):Option Addr→Sl→Addr→World→Option ((Unit)×World):=iter (fun _ _ _ _=>none) (K_1j K) n
noncomputable def K_5u (K:Nat) (h0:Option Addr) (b1:Sl) (w:World):Option ((Unit)×World):=
 bnd (newB z175 175 w) fun w_1 w_2=>
 bnd (K_1g K K h0 b1 w_1 w_2) fun y_59 w_60=>
 some ((),w_60)
theorem K_pb(K:Nat)(n:Nat):StmtNOk prog [(0,.ptr),(1,.sl),(4,.addr),(5,.int .i64),(30,.int .i64),(39,.sl),(40,.int .i64),(41,.int .i64)] [] [(7,8),(41,55)] ((fun n x w=>K_3c K n x.1 x.2.1 x.2.2.1 x.2.2.2.1 x.2.2.2.2.1 x.2.2.2.2.2.1 x.2.2.2.2.2.2.1 x.2.2.2.2.2.2.2.1 w) n) (.block 4 (.loop (cd (bodyOf f114) [1,0,0,1,0,0,0,1,0,0,1,1,0,0,1,1,0,0]))):=
  K_9 (O:=tabL []) (root:=(bodyOf f114)) (π:=[1,0,0,1,0,0,0,1,0,0,1,1,0,0,1,1,0,0]) (Li:=[(0,.ptr),(1,.sl),(4,.addr),(5,.int .i64),(30,.int .i64),(39,.sl),(40,.int .i64),(41,.int .i64)]) (Lo:=[]) (S:=(fun n x w=>K_3c K n x.1 x.2.1 x.2.2.1 x.2.2.2.1 x.2.2.2.2.1 x.2.2.2.2.2.1 x.2.2.2.2.2.2.1 x.2.2.2.2.2.2.2.1 w)) (K_3s K) (K_3m K) rfl (Orc.nil _ _ _) (by kernel_rfl) (fun _ _=>by kernel_rfl) (fun _ _ _=>by kernel_rfl) n
noncomputable def K_78 (K:Nat):SE:=stmtN [(0,.ptr),(1,.sl),(4,.addr),(5,.int .i64),(30,.int .i64),(39,.sl),(40,.int .i64),(41,.int .i64)] [] [(7,8),(41,55)] (fun x w=>K_3c K K x.1 x.2.1 x.2.2.1 x.2.2.2.1 x.2.2.2.2.1 x.2.2.2.2.2.1 x.2.2.2.2.2.2.1 x.2.2.2.2.2.2.2.1 w)
theorem K_83(K:Nat)(R:Rg)(h:subRB [(7,8),(41,55)] R=true):(K_78 K).Ok prog R (.block 4 (.loop (cd (bodyOf f114) [1,0,0,1,0,0,0,1,0,0,1,1,0,0,1,1,0,0]))):=K_2 (K_pb K K) (K_1 h)
theorem K_pl(K:Nat)(n:Nat):StmtNOk prog [(0,.ptr),(1,.sl),(4,.addr),(30,.int .i64)] [] [(5,6),(7,8),(30,56)] ((fun n x w=>K_3d K n x.1 x.2.1 x.2.2.1 x.2.2.2.1 w) n) (.block 2 (.loop (cd (bodyOf f114) [1,0,0,1,0,0,0,1,0,0]))):=
  K_9 (O:=tabL [([1,0,0,1,0,0,0,1,0,0,1,1,0,0,1,1],K_78 K)]) (root:=(bodyOf f114)) (π:=[1,0,0,1,0,0,0,1,0,0]) (Li:=[(0,.ptr),(1,.sl),(4,.addr),(30,.int .i64)]) (Lo:=[]) (S:=(fun n x w=>K_3d K n x.1 x.2.1 x.2.2.1 x.2.2.2.1 w)) (K_3s K) (K_3m K) rfl (Orc.cons (by kernel_rfl) (K_83 K [(5,6),(7,8),(30,56)] (by kernel_rfl)) (Orc.nil _ _ _)) (by kernel_rfl) (fun _ _=>by kernel_rfl) (fun _ _ _=>by kernel_rfl) n
noncomputable def K_a5 (K:Nat):SE:=stmtN [(0,.ptr),(1,.sl),(4,.addr),(30,.int .i64)] [] [(5,6),(7,8),(30,56)] (fun x w=>K_3d K K x.1 x.2.1 x.2.2.1 x.2.2.2.1 w)
theorem K_ct(K:Nat)(R:Rg)(h:subRB [(5,6),(7,8),(30,56)] R=true):(K_a5 K).Ok prog R (.block 2 (.loop (cd (bodyOf f114) [1,0,0,1,0,0,0,1,0,0]))):=K_2 (K_pl K K) (K_1 h)
theorem K_q0(K:Nat)(n:Nat):StmtNOk prog [(0,.ptr),(1,.sl),(4,.addr),(8,.int .i64)] [] [(8,11),(56,97)] ((fun n x w=>K_2w K n x.1 x.2.1 x.2.2.1 x.2.2.2.1 w) n) (.block 6 (.loop (cd (bodyOf f114) [1,0,0,1,0,0,1,0,1,0,0]))):=
  K_9 (O:=tabL []) (root:=(bodyOf f114)) (π:=[1,0,0,1,0,0,1,0,1,0,0]) (Li:=[(0,.ptr),(1,.sl),(4,.addr),(8,.int .i64)]) (Lo:=[]) (S:=(fun n x w=>K_2w K n x.1 x.2.1 x.2.2.1 x.2.2.2.1 w)) (K_3s K) (K_3m K) rfl (Orc.nil _ _ _) (by kernel_rfl) (fun _ _=>by kernel_rfl) (fun _ _ _=>by kernel_rfl) n
noncomputable def K_ad (K:Nat):SE:=stmtN [(0,.ptr),(1,.sl),(4,.addr),(8,.int .i64)] [] [(8,11),(56,97)] (fun x w=>K_2w K K x.1 x.2.1 x.2.2.1 x.2.2.2.1 w)
theorem K_c3(K:Nat)(R:Rg)(h:subRB [(8,11),(56,97)] R=true):(K_ad K).Ok prog R (.block 6 (.loop (cd (bodyOf f114) [1,0,0,1,0,0,1,0,1,0,0]))):=K_2 (K_q0 K K) (K_1 h)
theorem K_pc(K:Nat)(n:Nat):StmtNOk prog [(0,.ptr),(1,.sl),(4,.addr),(11,.int .u64),(12,.int .u64),(13,.int .u64),(14,.int .u64),(15,.int .u64),(16,.int .u64),(17,.int .u64),(18,.int .u64),(129,.agg),(130,.int .i64)] [(11,.int .u64),(12,.int .u64),(13,.int .u64),(14,.int .u64),(15,.int .u64),(16,.int .u64),(17,.int .u64),(18,.int .u64)] [(11,23),(130,192)] ((fun n x w=>K_32 K n x.1 x.2.1 x.2.2.1 x.2.2.2.1 x.2.2.2.2.1 x.2.2.2.2.2.1 x.2.2.2.2.2.2.1 x.2.2.2.2.2.2.2.1 x.2.2.2.2.2.2.2.2.1 x.2.2.2.2.2.2.2.2.2.1 x.2.2.2.2.2.2.2.2.2.2.1 x.2.2.2.2.2.2.2.2.2.2.2.1 x.2.2.2.2.2.2.2.2.2.2.2.2.1 w) n) (.block 8 (.loop (cd (bodyOf f114) [1,0,0,1,0,0,1,1,1,0,1,0,0]))):=
  K_9 (O:=tabL []) (root:=(bodyOf f114)) (π:=[1,0,0,1,0,0,1,1,1,0,1,0,0]) (Li:=[(0,.ptr),(1,.sl),(4,.addr),(11,.int .u64),(12,.int .u64),(13,.int .u64),(14,.int .u64),(15,.int .u64),(16,.int .u64),(17,.int .u64),(18,.int .u64),(129,.agg),(130,.int .i64)]) (Lo:=[(11,.int .u64),(12,.int .u64),(13,.int .u64),(14,.int .u64),(15,.int .u64),(16,.int .u64),(17,.int .u64),(18,.int .u64)]) (S:=(fun n x w=>K_32 K n x.1 x.2.1 x.2.2.1 x.2.2.2.1 x.2.2.2.2.1 x.2.2.2.2.2.1 x.2.2.2.2.2.2.1 x.2.2.2.2.2.2.2.1 x.2.2.2.2.2.2.2.2.1 x.2.2.2.2.2.2.2.2.2.1 x.2.2.2.2.2.2.2.2.2.2.1 x.2.2.2.2.2.2.2.2.2.2.2.1 x.2.2.2.2.2.2.2.2.2.2.2.2.1 w)) (K_3s K) (K_3m K) rfl (Orc.nil _ _ _) (by kernel_rfl) (fun _ _=>by kernel_rfl) (fun _ _ _=>by kernel_rfl) n
noncomputable def K_a9 (K:Nat):SE:=stmtN [(0,.ptr),(1,.sl),(4,.addr),(11,.int .u64),(12,.int .u64),(13,.int .u64),(14,.int .u64),(15,.int .u64),(16,.int .u64),(17,.int .u64),(18,.int .u64),(129,.agg),(130,.int .i64)] [(11,.int .u64),(12,.int .u64),(13,.int .u64),(14,.int .u64),(15,.int .u64),(16,.int .u64),(17,.int .u64),(18,.int .u64)] [(11,23),(130,192)] (fun x w=>K_32 K K x.1 x.2.1 x.2.2.1 x.2.2.2.1 x.2.2.2.2.1 x.2.2.2.2.2.1 x.2.2.2.2.2.2.1 x.2.2.2.2.2.2.2.1 x.2.2.2.2.2.2.2.2.1 x.2.2.2.2.2.2.2.2.2.1 x.2.2.2.2.2.2.2.2.2.2.1 x.2.2.2.2.2.2.2.2.2.2.2.1 x.2.2.2.2.2.2.2.2.2.2.2.2.1 w)
theorem K_cp(K:Nat)(R:Rg)(h:subRB [(11,23),(130,192)] R=true):(K_a9 K).Ok prog R (.block 8 (.loop (cd (bodyOf f114) [1,0,0,1,0,0,1,1,1,0,1,0,0]))):=K_2 (K_pc K K) (K_1 h)
theorem K_pw(K:Nat)(n:Nat):StmtNOk prog [(0,.ptr),(1,.sl),(4,.addr),(200,.agg),(201,.int .i64)] [] [(23,25),(201,215)] ((fun n x w=>K_30 K n x.1 x.2.1 x.2.2.1 x.2.2.2.1 x.2.2.2.2.1 w) n) (.block 10 (.loop (cd (bodyOf f114) [1,0,0,1,0,0,1,1,1,1,1,0,0]))):=
  K_9 (O:=tabL []) (root:=(bodyOf f114)) (π:=[1,0,0,1,0,0,1,1,1,1,1,0,0]) (Li:=[(0,.ptr),(1,.sl),(4,.addr),(200,.agg),(201,.int .i64)]) (Lo:=[]) (S:=(fun n x w=>K_30 K n x.1 x.2.1 x.2.2.1 x.2.2.2.1 x.2.2.2.2.1 w)) (K_3s K) (K_3m K) rfl (Orc.nil _ _ _) (by kernel_rfl) (fun _ _=>by kernel_rfl) (fun _ _ _=>by kernel_rfl) n
noncomputable def K_a1 (K:Nat):SE:=stmtN [(0,.ptr),(1,.sl),(4,.addr),(200,.agg),(201,.int .i64)] [] [(23,25),(201,215)] (fun x w=>K_30 K K x.1 x.2.1 x.2.2.1 x.2.2.2.1 x.2.2.2.2.1 w)
theorem K_cn(K:Nat)(R:Rg)(h:subRB [(23,25),(201,215)] R=true):(K_a1 K).Ok prog R (.block 10 (.loop (cd (bodyOf f114) [1,0,0,1,0,0,1,1,1,1,1,0,0]))):=K_2 (K_pw K K) (K_1 h)
theorem K_po(K:Nat)(n:Nat):StmtNOk prog [(0,.ptr),(1,.sl),(4,.addr)] [] [(1,2),(5,6),(7,215)] ((fun n x w=>K_1g K n x.1 x.2.1 x.2.2.1 w) n) (.block 0 (.loop (cd (bodyOf f114) [1,0,0]))):=
  K_9 (O:=tabL [([1,0,0,1,0,0,0,1],K_a5 K),([1,0,0,1,0,0,0,1,0,0,1,1,0,0,1,1],K_78 K),([1,0,0,1,0,0,1,0,1],K_ad K),([1,0,0,1,0,0,1,1,1,0,1],K_a9 K),([1,0,0,1,0,0,1,1,1,1,1],K_a1 K)]) (root:=(bodyOf f114)) (π:=[1,0,0]) (Li:=[(0,.ptr),(1,.sl),(4,.addr)]) (Lo:=[]) (S:=(fun n x w=>K_1g K n x.1 x.2.1 x.2.2.1 w)) (K_3s K) (K_3m K) rfl (Orc.cons (by kernel_rfl) (K_ct K [(1,2),(5,6),(7,215)] (by kernel_rfl)) (Orc.cons (by kernel_rfl) (K_83 K [(1,2),(5,6),(7,215)] (by kernel_rfl)) (Orc.cons (by kernel_rfl) (K_c3 K [(1,2),(5,6),(7,215)] (by kernel_rfl)) (Orc.cons (by kernel_rfl) (K_cp K [(1,2),(5,6),(7,215)] (by kernel_rfl)) (Orc.cons (by kernel_rfl) (K_cn K [(1,2),(5,6),(7,215)] (by kernel_rfl)) (Orc.nil _ _ _)))))) (by kernel_rfl) (fun _ _=>by kernel_rfl) (fun _ _ _=>by kernel_rfl) n
noncomputable def K_fb (K:Nat):SE:=stmtN [(0,.ptr),(1,.sl),(4,.addr)] [] [(1,2),(5,6),(7,215)] (fun x w=>K_1g K K x.1 x.2.1 x.2.2.1 w)
theorem K_lw(K:Nat)(R:Rg)(h:subRB [(1,2),(5,6),(7,215)] R=true):(K_fb K).Ok prog R (.block 0 (.loop (cd (bodyOf f114) [1,0,0]))):=K_2 (K_po K K) (K_1 h)
theorem K_fa:FunFacts prog 114 f114 (bodyOf f114) [(0,.ptr),(1,.sl)] [(0,215)]:=⟨func114,by kernel_rfl,by kernel_rfl,by kernel_rfl,by kernel_rfl,by kernel_rfl⟩
theorem K_q3(K:Nat)(x:TT [(0,.ptr),(1,.sl)])(w:World)(y:TR [])(w2:World)(h:K_5u K x.1 x.2.1 w=some (y,w2)):Calls prog 114 (encA [(0,.ptr),(1,.sl)] x).toArray w (fun e w3=>e= .returned (resV (encR [] y))∧w3=w2):=
  K_h (O:=tabL [([1],K_fb K),([1,0,0,1,0,0,0,1],K_a5 K),([1,0,0,1,0,0,0,1,0,0,1,1,0,0,1,1],K_78 K),([1,0,0,1,0,0,1,0,1],K_ad K),([1,0,0,1,0,0,1,1,1,0,1],K_a9 K),([1,0,0,1,0,0,1,1,1,1,1],K_a1 K)]) (Lp:=[(0,.ptr),(1,.sl)]) (Rt:=[]) (S:=(fun x w=>K_5u K x.1 x.2.1 w)) (K_3s K) (K_3m K) rfl K_fa (Orc.cons (by kernel_rfl) (K_lw K [(0,215)] (by kernel_rfl)) (Orc.cons (by kernel_rfl) (K_ct K [(0,215)] (by kernel_rfl)) (Orc.cons (by kernel_rfl) (K_83 K [(0,215)] (by kernel_rfl)) (Orc.cons (by kernel_rfl) (K_c3 K [(0,215)] (by kernel_rfl)) (Orc.cons (by kernel_rfl) (K_cp K [(0,215)] (by kernel_rfl)) (Orc.cons (by kernel_rfl) (K_cn K [(0,215)] (by kernel_rfl)) (Orc.nil _ _ _))))))) (fun _ _=>by kernel_rfl) x w y w2 h
noncomputable def K_jy (K:Nat):CE:=funE [(0,.ptr),(1,.sl)] [] (fun x w=>K_5u K x.1 x.2.1 w)
theorem K_tp(K:Nat):(K_jy K).Ok prog 114:=K_b K_fa fun x w y w2 h=>K_q3 K x w y w2 h
noncomputable def K_nn:List (Nat×RE):=[]
theorem K_kc:REnv.Ok prog (tab (K_nn)):=(REnv.nil _)
noncomputable def K_4 (x0:Int) (k1:Int):Option (Int×Unit):=
 if (0:Int)≤(bits .and .u64 (IntKind.u64.wrap k1) 31) then(if (0:Int)≤(IntKind.u64.wrap (32 - (bits .and .u64 (IntKind.u64.wrap k1) 31))) then(some ((bits .or .u32 (IntKind.u32.wrap (x0*2 ^ (min (Int.toNat (bits .and .u64 (IntKind.u64.wrap k1) 31)) IntKind.u32.bits))) (Int.fdiv x0 (2 ^ (min (Int.toNat (IntKind.u64.wrap (32 - (bits .and .u64 (IntKind.u64.wrap k1) 31)))) IntKind.u32.bits)))),())) else none) else none
theorem K_9s:FunFacts prog 132 f132 (bodyOf f132) [(0,.int .u32),(1,.int .i64)] [(0,17)]:=⟨func132,by kernel_rfl,by kernel_rfl,by kernel_rfl,by kernel_rfl,by kernel_rfl⟩
theorem K_hf(x:TT [(0,.int .u32),(1,.int .i64)])(w:World)(y:TR [.int .u32])(h:K_4 x.1 x.2.1=some y):Calls prog 132 (encA [(0,.int .u32),(1,.int .i64)] x).toArray w (fun e w3=>e= .returned (resV (encR [.int .u32] y))∧w3=w):=
  K_6p (O:=tabL []) (Lp:=[(0,.int .u32),(1,.int .i64)]) (Rt:=[.int .u32]) (S:=(fun x w=>K_4 x.1 x.2.1)) (K_kc) K_9s (OrcQ.nil _ _ _) (fun _ _=>by kernel_rfl) x w y h
noncomputable def K_c5:RE:=funR [(0,.int .u32),(1,.int .i64)] [.int .u32] (fun x w=>K_4 x.1 x.2.1)
theorem K_ky:(K_c5).Ok prog 132:=K_6o K_9s fun x w y h=>K_hf x w y h
noncomputable def K_t8 (K:Nat):List (Nat×CE):=[]
theorem K_2a(K:Nat):Env.Ok prog (tab (K_t8 K)):=(Env.nil _)
noncomputable def K_t6 (K:Nat):List (Nat×RE):=[(132,K_c5)]
theorem K_27(K:Nat):REnv.Ok prog (tab (K_t6 K)):=(REnv.cons (K_ky) (REnv.nil _))
noncomputable def K_4v (K:Nat) (rec:Option Addr→Sl→Addr→Int→World→Option ((Unit)×World)) (h0:Option Addr) (b1:Sl) (w4:Addr) (a31:Int) (w:World):Option ((Unit)×World):=
 if (decide (a31<16))=true then(if (0:Int)≤(IntKind.i64.wrap ((IntKind.i64.wrap (4*a31))+4))∧(IntKind.i64.wrap ((IntKind.i64.wrap (4*a31))+4))≤((b1.cap:Nat):Int) then(if (0:Int)≤(IntKind.i64.wrap (4*a31))∧(IntKind.i64.wrap (4*a31))≤(((Int.toNat ((IntKind.i64.wrap ((IntKind.i64.wrap (4*a31))+4)))):Nat):Int) then(((sla b1.a (Int.toNat ((IntKind.i64.wrap (4*a31)))) b1.cap 1)).bind fun p_3=>
 if (0:Int)≤0∧0<((((Int.toNat ((IntKind.i64.wrap ((IntKind.i64.wrap (4*a31))+4)))) - (Int.toNat ((IntKind.i64.wrap (4*a31))))):Nat):Int) then(((sla b1.a (Int.toNat ((IntKind.i64.wrap (4*a31)))) b1.cap 1)).bind fun p_4=>
 if (0:Int)≤1∧1<((((Int.toNat ((IntKind.i64.wrap ((IntKind.i64.wrap (4*a31))+4)))) - (Int.toNat ((IntKind.i64.wrap (4*a31))))):Nat):Int) then(((sla b1.a (Int.toNat ((IntKind.i64.wrap (4*a31)))) b1.cap 1)).bind fun p_5=>
 if (0:Int)≤2∧2<((((Int.toNat ((IntKind.i64.wrap ((IntKind.i64.wrap (4*a31))+4)))) - (Int.toNat ((IntKind.i64.wrap (4*a31))))):Nat):Int) then(((sla b1.a (Int.toNat ((IntKind.i64.wrap (4*a31)))) b1.cap 1)).bind fun p_6=>
 if (0:Int)≤3∧3<((((Int.toNat ((IntKind.i64.wrap ((IntKind.i64.wrap (4*a31))+4)))) - (Int.toNat ((IntKind.i64.wrap (4*a31))))):Nat):Int) then((ldI .u8 (p_3.add (0*1)) w.drew).bind fun v_7=>
 (ldI .u8 (p_4.add (1*1)) w.drew).bind fun v_8=>
 (ldI .u8 (p_5.add (2*1)) w.drew).bind fun v_9=>
 (ldI .u8 (p_6.add (3*1)) w.drew).bind fun v_10=>
 if (0:Int)≤a31∧a31<((64:Nat):Int) then((stC (w4.add ((Int.toNat a31)*1)) (.int .u32 (bits .or .u32 (bits .or .u32 (bits .or .u32 (IntKind.u32.wrap ((IntKind.u32.wrap v_7)*2 ^ 24)) (IntKind.u32.wrap ((IntKind.u32.wrap v_8)*2 ^ 16))) (IntKind.u32.wrap ((IntKind.u32.wrap v_9)*2 ^ 8))) (IntKind.u32.wrap v_10))) w.drew).bind fun w_11=>
 rec h0 b1 w4 (IntKind.i64.wrap (a31+1)) w_11) else none) else none) else none) else none) else none) else none) else none) else(some ((),w))
noncomputable def K_20 (K:Nat) (n:Nat):Option Addr→Sl→Addr→Int→World→Option ((Unit)×World):=iter (fun _ _ _ _ _=>none) (K_4v K) n
noncomputable def K_4i (K:Nat) (rec:Option Addr→Sl→Addr→Int→World→Option ((Unit)×World)) (h0:Option Addr) (b1:Sl) (w4:Addr) (i7:Int) (w:World):Option ((Unit)×World):=
 if (decide (i7<64))=true then(if (0:Int)≤(IntKind.i64.wrap (i7 - 15))∧(IntKind.i64.wrap (i7 - 15))<((64:Nat):Int) then(if (0:Int)≤(IntKind.i64.wrap (i7 - 2))∧(IntKind.i64.wrap (i7 - 2))<((64:Nat):Int) then((ldI .u32 (w4.add ((Int.toNat (IntKind.i64.wrap (i7 - 15)))*1)) w.drew).bind fun v_14=>
 (ldI .u32 (w4.add ((Int.toNat (IntKind.i64.wrap (i7 - 2)))*1)) w.drew).bind fun v_15=>
 if (0:Int)≤(IntKind.i64.wrap (i7 - 16))∧(IntKind.i64.wrap (i7 - 16))<((64:Nat):Int) then(if (0:Int)≤(IntKind.i64.wrap (i7 - 7))∧(IntKind.i64.wrap (i7 - 7))<((64:Nat):Int) then((ldI .u32 (w4.add ((Int.toNat (IntKind.i64.wrap (i7 - 16)))*1)) w.drew.drew).bind fun v_16=>
 (ldI .u32 (w4.add ((Int.toNat (IntKind.i64.wrap (i7 - 7)))*1)) w.drew.drew).bind fun v_17=>
 (K_4 v_14 (-7)).bind fun r_18=>
 (K_4 v_14 (-18)).bind fun r_19=>
 (K_4 v_15 (-17)).bind fun r_20=>
 (K_4 v_15 (-19)).bind fun r_21=>
 if (0:Int)≤i7∧i7<((64:Nat):Int) then((stC (w4.add ((Int.toNat i7)*1)) (.int .u32 (IntKind.u32.wrap ((IntKind.u32.wrap ((IntKind.u32.wrap (v_16+v_17))+(bits .xor .u32 (bits .xor .u32 r_18.1 r_19.1) (Int.fdiv v_14 (2 ^ 3)))))+(bits .xor .u32 (bits .xor .u32 r_20.1 r_21.1) (Int.fdiv v_15 (2 ^ 10)))))) w.drew.drew).bind fun w_22=>
 rec h0 b1 w4 (IntKind.i64.wrap (i7+1)) w_22) else none) else none) else none) else none) else none) else(some ((),w))
noncomputable def K_23 (K:Nat) (n:Nat):Option Addr→Sl→Addr→Int→World→Option ((Unit)×World):=iter (fun _ _ _ _ _=>none) (K_4i K) n
noncomputable def K_4j (K:Nat) (rec:Option Addr→Sl→Addr→Addr→Int→World→Option ((Unit)×World)) (h0:Option Addr) (b1:Sl) (w4:Addr) (v10:Addr) (a107:Int) (w:World):Option ((Unit)×World):=
 if (decide (a107<8))=true then((h0).bind fun p_27=>
 if (0:Int)≤a107∧a107<((8:Nat):Int) then((ldI .u64 (p_27.add ((Int.toNat a107)*1)) w).bind fun v_28=>
 if (0:Int)≤a107∧a107<((8:Nat):Int) then((stC (v10.add ((Int.toNat a107)*1)) (.int .u32 (IntKind.u32.wrap v_28)) w).bind fun w_29=>
 rec h0 b1 w4 v10 (IntKind.i64.wrap (a107+1)) w_29) else none) else none) else(some ((),w))
noncomputable def K_1z (K:Nat) (n:Nat):Option Addr→Sl→Addr→Addr→Int→World→Option ((Unit)×World):=iter (fun _ _ _ _ _ _=>none) (K_4j K) n
noncomputable def K_4n (K:Nat) (rec:Option Addr→Sl→Addr→Addr→Int→Int→Int→Int→Int→Int→Int→Int→Int→World→Option ((Int×Int×Int×Int×Int×Int×Int×Int×Unit)×World)) (h0:Option Addr) (b1:Sl) (w4:Addr) (v10:Addr) (a12:Int) (b113:Int) (c14:Int) (d15:Int) (e16:Int) (f17:Int) (g18:Int) (k19:Int) (a135:Int) (w:World):Option ((Int×Int×Int×Int×Int×Int×Int×Int×Unit)×World):=
 if (decide (a135<64))=true then(if (0:Int)≤a135∧a135<((80:Nat):Int) then((ldI .u64 ((⟨3,0,none⟩:Addr).add ((Int.toNat a135)*1)) w).bind fun v_40=>
 if (0:Int)≤a135∧a135<((64:Nat):Int) then((K_4 e16 (-6)).bind fun r_41=>
 (K_4 e16 (-11)).bind fun r_42=>
 (K_4 e16 (-25)).bind fun r_43=>
 (ldI .u32 (w4.add ((Int.toNat a135)*1)) w.drew).bind fun v_44=>
 (K_4 a12 (-2)).bind fun r_45=>
 (K_4 a12 (-13)).bind fun r_46=>
 (K_4 a12 (-22)).bind fun r_47=>
 rec h0 b1 w4 v10 (IntKind.u32.wrap ((IntKind.u32.wrap ((IntKind.u32.wrap ((IntKind.u32.wrap ((IntKind.u32.wrap (k19+(bits .xor .u32 (bits .xor .u32 r_41.1 r_42.1) r_43.1)))+(bits .xor .u32 (bits .and .u32 e16 f17) (bits .and .u32 (bits .xor .u32 IntKind.u32.max e16) g18))))+(IntKind.u32.wrap (Int.fdiv v_40 (2 ^ 32)))))+v_44))+(IntKind.u32.wrap ((bits .xor .u32 (bits .xor .u32 r_45.1 r_46.1) r_47.1)+(bits .xor .u32 (bits .xor .u32 (bits .and .u32 a12 b113) (bits .and .u32 a12 c14)) (bits .and .u32 b113 c14)))))) a12 b113 c14 (IntKind.u32.wrap (d15+(IntKind.u32.wrap ((IntKind.u32.wrap ((IntKind.u32.wrap ((IntKind.u32.wrap (k19+(bits .xor .u32 (bits .xor .u32 r_41.1 r_42.1) r_43.1)))+(bits .xor .u32 (bits .and .u32 e16 f17) (bits .and .u32 (bits .xor .u32 IntKind.u32.max e16) g18))))+(IntKind.u32.wrap (Int.fdiv v_40 (2 ^ 32)))))+v_44)))) e16 f17 g18 (IntKind.i64.wrap (a135+1)) w.drew) else none) else none) else(some ((a12,b113,c14,d15,e16,f17,g18,k19,()),w))
noncomputable def K_21 (K:Nat) (n:Nat):Option Addr→Sl→Addr→Addr→Int→Int→Int→Int→Int→Int→Int→Int→Int→World→Option ((Int×Int×Int×Int×Int×Int×Int×Int×Unit)×World):=iter (fun _ _ _ _ _ _ _ _ _ _ _ _ _ _=>none) (K_4n K) n
noncomputable def K_4u (K:Nat) (rec:Option Addr→Sl→Addr→Addr→Array Value→Int→World→Option ((Unit)×World)) (h0:Option Addr) (b1:Sl) (w4:Addr) (v10:Addr) (a209:Array Value) (a210:Int) (w:World):Option ((Unit)×World):=
 if (decide (a210<8))=true then(if (0:Int)≤a210∧a210<((8:Nat):Int) then((a209[((Int.toNat a210)*1)]?).bind fun v_51=>
 (asI .u32 v_51).bind fun v_52=>
 if (0:Int)≤a210∧a210<((8:Nat):Int) then((h0).bind fun p_53=>
 (ldI .u32 (v10.add ((Int.toNat a210)*1)) w.drew).bind fun v_54=>
 if (0:Int)≤a210∧a210<((8:Nat):Int) then((stC (p_53.add ((Int.toNat a210)*1)) (.int .u64 (IntKind.u64.wrap (IntKind.u32.wrap (v_54+v_52)))) w.drew).bind fun w_55=>
 rec h0 b1 w4 v10 a209 (IntKind.i64.wrap (a210+1)) w_55) else none) else none) else none) else(some ((),w))
noncomputable def K_1x (K:Nat) (n:Nat):Option Addr→Sl→Addr→Addr→Array Value→Int→World→Option ((Unit)×World):=iter (fun _ _ _ _ _ _ _=>none) (K_4u K) n
noncomputable def K_12 (K:Nat) (rec:Option Addr→Sl→Addr→World→Option ((Unit)×World)) (h0:Option Addr) (b1:Sl) (w4:Addr) (w:World):Option ((Unit)×World):=
 if (decide (((b1.len:Nat):Int)≥64))=true then(bnd (K_20 K K h0 b1 w4 0 w) fun y_12 w_13=>
 bnd (K_23 K K h0 b1 w4 16 w_13) fun y_23 w_24=>
 bnd (newB z176 176 w_24) fun v_25 w_26=>
 bnd (K_1z K K h0 b1 w4 v_25 0 w_26) fun y_30 w_31=>
 (ldI .u32 (v_25.add (0*1)) w_31.drew).bind fun v_32=>
 (ldI .u32 (v_25.add (1*1)) w_31.drew).bind fun v_33=>
 (ldI .u32 (v_25.add (2*1)) w_31.drew).bind fun v_34=>
 (ldI .u32 (v_25.add (3*1)) w_31.drew).bind fun v_35=>
 (ldI .u32 (v_25.add (4*1)) w_31.drew).bind fun v_36=>
 (ldI .u32 (v_25.add (5*1)) w_31.drew).bind fun v_37=>
 (ldI .u32 (v_25.add (6*1)) w_31.drew).bind fun v_38=>
 (ldI .u32 (v_25.add (7*1)) w_31.drew).bind fun v_39=>
 bnd (K_21 K K h0 b1 w4 v_25 v_32 v_33 v_34 v_35 v_36 v_37 v_38 v_39 0 w_31.drew) fun y_48 w_49=>
 (prog.built 176 [(0,(.int .u32 y_48.1)),(1,(.int .u32 y_48.2.1)),(2,(.int .u32 y_48.2.2.1)),(3,(.int .u32 y_48.2.2.2.1)),(4,(.int .u32 y_48.2.2.2.2.1)),(5,(.int .u32 y_48.2.2.2.2.2.1)),(6,(.int .u32 y_48.2.2.2.2.2.2.1)),(7,(.int .u32 y_48.2.2.2.2.2.2.2.1))]).bind fun cs_50=>
 bnd (K_1x K K h0 b1 w4 v_25 cs_50 0 w_49) fun y_56 w_57=>
 if (0:Int)≤64∧64≤((b1.len:Nat):Int) then(rec h0 ⟨(sla b1.a 64 b1.cap 1),(b1.len - 64),(b1.cap - 64)⟩ w4 w_57) else none) else(some ((),w))
noncomputable def K_16 (K:Nat) (n:Nat):Option Addr→Sl→Addr→World→Option ((Unit)×World):=iter (fun _ _ _ _=>none) (K_12 K) n
noncomputable def K_3w (K:Nat) (h0:Option Addr) (b1:Sl) (w:World):Option ((Unit)×World):=
 bnd (newB z174 174 w) fun w_1 w_2=>
 bnd (K_16 K K h0 b1 w_1 w_2) fun y_58 w_59=>
 some ((),w_59)
theorem K_na(K:Nat)(n:Nat):StmtNOk prog [(0,.ptr),(1,.sl),(4,.addr),(31,.int .i64)] [] [(5,7),(31,66)] ((fun n x w=>K_20 K n x.1 x.2.1 x.2.2.1 x.2.2.2.1 w) n) (.block 2 (.loop (cd (bodyOf f113) [1,0,0,1,0,0,0,1,0,0]))):=
  K_9 (O:=tabL []) (root:=(bodyOf f113)) (π:=[1,0,0,1,0,0,0,1,0,0]) (Li:=[(0,.ptr),(1,.sl),(4,.addr),(31,.int .i64)]) (Lo:=[]) (S:=(fun n x w=>K_20 K n x.1 x.2.1 x.2.2.1 x.2.2.2.1 w)) (K_2a K) (K_27 K) rfl (Orc.nil _ _ _) (by kernel_rfl) (fun _ _=>by kernel_rfl) (fun _ _ _=>by kernel_rfl) n
noncomputable def K_8l (K:Nat):SE:=stmtN [(0,.ptr),(1,.sl),(4,.addr),(31,.int .i64)] [] [(5,7),(31,66)] (fun x w=>K_20 K K x.1 x.2.1 x.2.2.1 x.2.2.2.1 w)
theorem K_ai(K:Nat)(R:Rg)(h:subRB [(5,7),(31,66)] R=true):(K_8l K).Ok prog R (.block 2 (.loop (cd (bodyOf f113) [1,0,0,1,0,0,0,1,0,0]))):=K_2 (K_na K K) (K_1 h)
theorem K_ms(K:Nat)(n:Nat):StmtNOk prog [(0,.ptr),(1,.sl),(4,.addr),(7,.int .i64)] [] [(7,10),(66,107)] ((fun n x w=>K_23 K n x.1 x.2.1 x.2.2.1 x.2.2.2.1 w) n) (.block 4 (.loop (cd (bodyOf f113) [1,0,0,1,0,0,1,0,1,0,0]))):=
  K_9 (O:=tabL []) (root:=(bodyOf f113)) (π:=[1,0,0,1,0,0,1,0,1,0,0]) (Li:=[(0,.ptr),(1,.sl),(4,.addr),(7,.int .i64)]) (Lo:=[]) (S:=(fun n x w=>K_23 K n x.1 x.2.1 x.2.2.1 x.2.2.2.1 w)) (K_2a K) (K_27 K) rfl (Orc.nil _ _ _) (by kernel_rfl) (fun _ _=>by kernel_rfl) (fun _ _ _=>by kernel_rfl) n
noncomputable def K_8p (K:Nat):SE:=stmtN [(0,.ptr),(1,.sl),(4,.addr),(7,.int .i64)] [] [(7,10),(66,107)] (fun x w=>K_23 K K x.1 x.2.1 x.2.2.1 x.2.2.2.1 w)
theorem K_at(K:Nat)(R:Rg)(h:subRB [(7,10),(66,107)] R=true):(K_8p K).Ok prog R (.block 4 (.loop (cd (bodyOf f113) [1,0,0,1,0,0,1,0,1,0,0]))):=K_2 (K_ms K K) (K_1 h)
theorem K_nl(K:Nat)(n:Nat):StmtNOk prog [(0,.ptr),(1,.sl),(4,.addr),(10,.addr),(107,.int .i64)] [] [(11,12),(107,119)] ((fun n x w=>K_1z K n x.1 x.2.1 x.2.2.1 x.2.2.2.1 x.2.2.2.2.1 w) n) (.block 6 (.loop (cd (bodyOf f113) [1,0,0,1,0,0,1,1,1,0,1,0,0]))):=
  K_9 (O:=tabL []) (root:=(bodyOf f113)) (π:=[1,0,0,1,0,0,1,1,1,0,1,0,0]) (Li:=[(0,.ptr),(1,.sl),(4,.addr),(10,.addr),(107,.int .i64)]) (Lo:=[]) (S:=(fun n x w=>K_1z K n x.1 x.2.1 x.2.2.1 x.2.2.2.1 x.2.2.2.2.1 w)) (K_2a K) (K_27 K) rfl (Orc.nil _ _ _) (by kernel_rfl) (fun _ _=>by kernel_rfl) (fun _ _ _=>by kernel_rfl) n
noncomputable def K_8o (K:Nat):SE:=stmtN [(0,.ptr),(1,.sl),(4,.addr),(10,.addr),(107,.int .i64)] [] [(11,12),(107,119)] (fun x w=>K_1z K K x.1 x.2.1 x.2.2.1 x.2.2.2.1 x.2.2.2.2.1 w)
theorem K_ap(K:Nat)(R:Rg)(h:subRB [(11,12),(107,119)] R=true):(K_8o K).Ok prog R (.block 6 (.loop (cd (bodyOf f113) [1,0,0,1,0,0,1,1,1,0,1,0,0]))):=K_2 (K_nl K K) (K_1 h)
theorem K_ne(K:Nat)(n:Nat):StmtNOk prog [(0,.ptr),(1,.sl),(4,.addr),(10,.addr),(12,.int .u32),(13,.int .u32),(14,.int .u32),(15,.int .u32),(16,.int .u32),(17,.int .u32),(18,.int .u32),(19,.int .u32),(135,.int .i64)] [(12,.int .u32),(13,.int .u32),(14,.int .u32),(15,.int .u32),(16,.int .u32),(17,.int .u32),(18,.int .u32),(19,.int .u32)] [(12,24),(135,201)] ((fun n x w=>K_21 K n x.1 x.2.1 x.2.2.1 x.2.2.2.1 x.2.2.2.2.1 x.2.2.2.2.2.1 x.2.2.2.2.2.2.1 x.2.2.2.2.2.2.2.1 x.2.2.2.2.2.2.2.2.1 x.2.2.2.2.2.2.2.2.2.1 x.2.2.2.2.2.2.2.2.2.2.1 x.2.2.2.2.2.2.2.2.2.2.2.1 x.2.2.2.2.2.2.2.2.2.2.2.2.1 w) n) (.block 8 (.loop (cd (bodyOf f113) [1,0,0,1,0,0,1,1,1,1,1,0,1,0,0]))):=
  K_9 (O:=tabL []) (root:=(bodyOf f113)) (π:=[1,0,0,1,0,0,1,1,1,1,1,0,1,0,0]) (Li:=[(0,.ptr),(1,.sl),(4,.addr),(10,.addr),(12,.int .u32),(13,.int .u32),(14,.int .u32),(15,.int .u32),(16,.int .u32),(17,.int .u32),(18,.int .u32),(19,.int .u32),(135,.int .i64)]) (Lo:=[(12,.int .u32),(13,.int .u32),(14,.int .u32),(15,.int .u32),(16,.int .u32),(17,.int .u32),(18,.int .u32),(19,.int .u32)]) (S:=(fun n x w=>K_21 K n x.1 x.2.1 x.2.2.1 x.2.2.2.1 x.2.2.2.2.1 x.2.2.2.2.2.1 x.2.2.2.2.2.2.1 x.2.2.2.2.2.2.2.1 x.2.2.2.2.2.2.2.2.1 x.2.2.2.2.2.2.2.2.2.1 x.2.2.2.2.2.2.2.2.2.2.1 x.2.2.2.2.2.2.2.2.2.2.2.1 x.2.2.2.2.2.2.2.2.2.2.2.2.1 w)) (K_2a K) (K_27 K) rfl (Orc.nil _ _ _) (by kernel_rfl) (fun _ _=>by kernel_rfl) (fun _ _ _=>by kernel_rfl) n
noncomputable def K_8n (K:Nat):SE:=stmtN [(0,.ptr),(1,.sl),(4,.addr),(10,.addr),(12,.int .u32),(13,.int .u32),(14,.int .u32),(15,.int .u32),(16,.int .u32),(17,.int .u32),(18,.int .u32),(19,.int .u32),(135,.int .i64)] [(12,.int .u32),(13,.int .u32),(14,.int .u32),(15,.int .u32),(16,.int .u32),(17,.int .u32),(18,.int .u32),(19,.int .u32)] [(12,24),(135,201)] (fun x w=>K_21 K K x.1 x.2.1 x.2.2.1 x.2.2.2.1 x.2.2.2.2.1 x.2.2.2.2.2.1 x.2.2.2.2.2.2.1 x.2.2.2.2.2.2.2.1 x.2.2.2.2.2.2.2.2.1 x.2.2.2.2.2.2.2.2.2.1 x.2.2.2.2.2.2.2.2.2.2.1 x.2.2.2.2.2.2.2.2.2.2.2.1 x.2.2.2.2.2.2.2.2.2.2.2.2.1 w)
theorem K_ah(K:Nat)(R:Rg)(h:subRB [(12,24),(135,201)] R=true):(K_8n K).Ok prog R (.block 8 (.loop (cd (bodyOf f113) [1,0,0,1,0,0,1,1,1,1,1,0,1,0,0]))):=K_2 (K_ne K K) (K_1 h)
theorem K_mt(K:Nat)(n:Nat):StmtNOk prog [(0,.ptr),(1,.sl),(4,.addr),(10,.addr),(209,.agg),(210,.int .i64)] [] [(24,26),(210,225)] ((fun n x w=>K_1x K n x.1 x.2.1 x.2.2.1 x.2.2.2.1 x.2.2.2.2.1 x.2.2.2.2.2.1 w) n) (.block 10 (.loop (cd (bodyOf f113) [1,0,0,1,0,0,1,1,1,1,1,1,1,0,0]))):=
  K_9 (O:=tabL []) (root:=(bodyOf f113)) (π:=[1,0,0,1,0,0,1,1,1,1,1,1,1,0,0]) (Li:=[(0,.ptr),(1,.sl),(4,.addr),(10,.addr),(209,.agg),(210,.int .i64)]) (Lo:=[]) (S:=(fun n x w=>K_1x K n x.1 x.2.1 x.2.2.1 x.2.2.2.1 x.2.2.2.2.1 x.2.2.2.2.2.1 w)) (K_2a K) (K_27 K) rfl (Orc.nil _ _ _) (by kernel_rfl) (fun _ _=>by kernel_rfl) (fun _ _ _=>by kernel_rfl) n
noncomputable def K_8m (K:Nat):SE:=stmtN [(0,.ptr),(1,.sl),(4,.addr),(10,.addr),(209,.agg),(210,.int .i64)] [] [(24,26),(210,225)] (fun x w=>K_1x K K x.1 x.2.1 x.2.2.1 x.2.2.2.1 x.2.2.2.2.1 x.2.2.2.2.2.1 w)
theorem K_an(K:Nat)(R:Rg)(h:subRB [(24,26),(210,225)] R=true):(K_8m K).Ok prog R (.block 10 (.loop (cd (bodyOf f113) [1,0,0,1,0,0,1,1,1,1,1,1,1,0,0]))):=K_2 (K_mt K K) (K_1 h)
theorem K_nj(K:Nat)(n:Nat):StmtNOk prog [(0,.ptr),(1,.sl),(4,.addr)] [] [(1,2),(5,225)] ((fun n x w=>K_16 K n x.1 x.2.1 x.2.2.1 w) n) (.block 0 (.loop (cd (bodyOf f113) [1,0,0]))):=
  K_9 (O:=tabL [([1,0,0,1,0,0,0,1],K_8l K),([1,0,0,1,0,0,1,0,1],K_8p K),([1,0,0,1,0,0,1,1,1,0,1],K_8o K),([1,0,0,1,0,0,1,1,1,1,1,0,1],K_8n K),([1,0,0,1,0,0,1,1,1,1,1,1,1],K_8m K)]) (root:=(bodyOf f113)) (π:=[1,0,0]) (Li:=[(0,.ptr),(1,.sl),(4,.addr)]) (Lo:=[]) (S:=(fun n x w=>K_16 K n x.1 x.2.1 x.2.2.1 w)) (K_2a K) (K_27 K) rfl (Orc.cons (by kernel_rfl) (K_ai K [(1,2),(5,225)] (by kernel_rfl)) (Orc.cons (by kernel_rfl) (K_at K [(1,2),(5,225)] (by kernel_rfl)) (Orc.cons (by kernel_rfl) (K_ap K [(1,2),(5,225)] (by kernel_rfl)) (Orc.cons (by kernel_rfl) (K_ah K [(1,2),(5,225)] (by kernel_rfl)) (Orc.cons (by kernel_rfl) (K_an K [(1,2),(5,225)] (by kernel_rfl)) (Orc.nil _ _ _)))))) (by kernel_rfl) (fun _ _=>by kernel_rfl) (fun _ _ _=>by kernel_rfl) n
noncomputable def K_d0 (K:Nat):SE:=stmtN [(0,.ptr),(1,.sl),(4,.addr)] [] [(1,2),(5,225)] (fun x w=>K_16 K K x.1 x.2.1 x.2.2.1 w)
theorem K_if(K:Nat)(R:Rg)(h:subRB [(1,2),(5,225)] R=true):(K_d0 K).Ok prog R (.block 0 (.loop (cd (bodyOf f113) [1,0,0]))):=K_2 (K_nj K K) (K_1 h)
theorem K_d8:FunFacts prog 113 f113 (bodyOf f113) [(0,.ptr),(1,.sl)] [(0,225)]:=⟨func113,by kernel_rfl,by kernel_rfl,by kernel_rfl,by kernel_rfl,by kernel_rfl⟩
theorem K_mz(K:Nat)(x:TT [(0,.ptr),(1,.sl)])(w:World)(y:TR [])(w2:World)(h:K_3w K x.1 x.2.1 w=some (y,w2)):Calls prog 113 (encA [(0,.ptr),(1,.sl)] x).toArray w (fun e w3=>e= .returned (resV (encR [] y))∧w3=w2):=
  K_h (O:=tabL [([1],K_d0 K),([1,0,0,1,0,0,0,1],K_8l K),([1,0,0,1,0,0,1,0,1],K_8p K),([1,0,0,1,0,0,1,1,1,0,1],K_8o K),([1,0,0,1,0,0,1,1,1,1,1,0,1],K_8n K),([1,0,0,1,0,0,1,1,1,1,1,1,1],K_8m K)]) (Lp:=[(0,.ptr),(1,.sl)]) (Rt:=[]) (S:=(fun x w=>K_3w K x.1 x.2.1 w)) (K_2a K) (K_27 K) rfl K_d8 (Orc.cons (by kernel_rfl) (K_if K [(0,225)] (by kernel_rfl)) (Orc.cons (by kernel_rfl) (K_ai K [(0,225)] (by kernel_rfl)) (Orc.cons (by kernel_rfl) (K_at K [(0,225)] (by kernel_rfl)) (Orc.cons (by kernel_rfl) (K_ap K [(0,225)] (by kernel_rfl)) (Orc.cons (by kernel_rfl) (K_ah K [(0,225)] (by kernel_rfl)) (Orc.cons (by kernel_rfl) (K_an K [(0,225)] (by kernel_rfl)) (Orc.nil _ _ _))))))) (fun _ _=>by kernel_rfl) x w y w2 h
noncomputable def K_gp (K:Nat):CE:=funE [(0,.ptr),(1,.sl)] [] (fun x w=>K_3w K x.1 x.2.1 w)
theorem K_re(K:Nat):(K_gp K).Ok prog 113:=K_b K_d8 fun x w y w2 h=>K_mz K x w y w2 h
noncomputable def K_42 (K:Nat):List (Nat×CE):=[(113,K_gp K),(114,K_jy K)]
theorem K_br(K:Nat):Env.Ok prog (tab (K_42 K)):=(Env.cons (K_re K) (Env.cons (K_tp K) (Env.nil _)))
noncomputable def K_ng (K:Nat):List (Nat×RE):=[]
theorem K_bt(K:Nat):REnv.Ok prog (tab (K_ng K)):=(REnv.nil _)
noncomputable def K_q (K:Nat) (s0:Option Addr) (b1:Sl) (at4:Int) (a30:Bool) (w:World):Option ((Out (Sl×Unit) (Unit))×World):=
 if a30=true then((s0).bind fun p_9=>
 (s0).bind fun p_10=>
 (ldI .i64 ((p_10.add 0).add 1) w.drew).bind fun v_11=>
 if (0:Int)≤v_11∧v_11≤((128:Nat):Int) then(if (0:Int)≤at4∧at4≤(((Int.toNat (v_11)):Nat):Int) then(bnd (cpy prog 23 23 (.slice (sla (some (p_9.add 14)) (Int.toNat (at4)) 128 1) ((Int.toNat (v_11)) - (Int.toNat (at4))) (128 - (Int.toNat (at4)))) (.slice b1.a b1.len b1.cap) w.drew) fun s_12 w_13=>
 if (0:Int)≤s_12∧s_12≤((b1.len:Nat):Int) then((s0).bind fun p_14=>
 (ldI .i64 ((p_14.add 0).add 1) w_13).bind fun v_15=>
 if (decide ((IntKind.i64.wrap (at4+s_12))<v_15))=true then(some (.ret (),w_13)) else((s0).bind fun p_16=>
 (s0).bind fun p_17=>
 (s0).bind fun p_18=>
 (s0).bind fun p_19=>
 (ldV ((p_16.add 0).add 3) w_13.drew).bind fun v_20=>
 (ldI .i64 ((p_19.add 0).add 1) w_13.drew).bind fun v_21=>
 if (0:Int)≤v_21∧v_21≤((128:Nat):Int) then(dyn (tab (K_42 K)) v_20 [(.pointer (some (p_17.add 6))),(.slice (sla (some (p_18.add 14)) 0 128 1) ((Int.toNat (v_21)) - 0) (128 - 0))] w_13.drew fun v_22 w_23=>
 some (.norm (⟨(sla b1.a (Int.toNat (s_12)) b1.cap 1),(b1.len - (Int.toNat (s_12))),(b1.cap - (Int.toNat (s_12)))⟩,()),w_23)) else none)) else none) else none) else none) else(some (.norm (b1,()),w))
noncomputable def K_28 (K:Nat) (s0:Option Addr) (b1:Sl) (w:World):Option ((Unit)×World):=
 (s0).bind fun p_1=>
 (s0).bind fun p_2=>
 (ldI .u64 (p_1.add 5) w.drew).bind fun v_3=>
 (ldI .i64 ((p_2.add 0).add 1) w.drew).bind fun v_4=>
 if (IntKind.u64.wrap v_4)≠0 then((s0).bind fun p_5=>
 (ldI .u64 (p_5.add 5) w.drew).bind fun v_6=>
 (s0).bind fun p_7=>
 (stC (p_7.add 5) (.int .u64 (IntKind.u64.wrap (v_6+(IntKind.u64.wrap ((b1.len:Nat):Int))))) w.drew).bind fun w_8=>
 bnd (K_q K s0 b1 (IntKind.i64.wrap (Int.tmod v_3 (IntKind.u64.wrap v_4))) (decide ((IntKind.i64.wrap (Int.tmod v_3 (IntKind.u64.wrap v_4))) > 0)) w_8) fun y_24 w_25=>
 (match y_24 with
 | .norm z_26n=>((s0).bind fun p_27=>
 (s0).bind fun p_28=>
 (ldI .i64 ((p_27.add 0).add 1) w_25.drew).bind fun v_29=>
 if v_29≠0 then((ldI .i64 ((p_28.add 0).add 1) w_25.drew).bind fun v_30=>
 (s0).bind fun p_31=>
 (s0).bind fun p_32=>
 if (0:Int)≤(IntKind.i64.wrap ((IntKind.i64.wrap (Int.tdiv ((z_26n.1.len:Nat):Int) v_29))*v_30))∧(IntKind.i64.wrap ((IntKind.i64.wrap (Int.tdiv ((z_26n.1.len:Nat):Int) v_29))*v_30))≤((z_26n.1.cap:Nat):Int) then((ldV ((p_31.add 0).add 3) w_25.drew.drew).bind fun v_33=>
 dyn (tab (K_42 K)) v_33 [(.pointer (some (p_32.add 6))),(.slice (sla z_26n.1.a 0 z_26n.1.cap 1) ((Int.toNat ((IntKind.i64.wrap ((IntKind.i64.wrap (Int.tdiv ((z_26n.1.len:Nat):Int) v_29))*v_30)))) - 0) (z_26n.1.cap - 0))] w_25.drew.drew fun v_34 w_35=>
 (s0).bind fun p_36=>
 if (0:Int)≤(IntKind.i64.wrap ((IntKind.i64.wrap (Int.tdiv ((z_26n.1.len:Nat):Int) v_29))*v_30))∧(IntKind.i64.wrap ((IntKind.i64.wrap (Int.tdiv ((z_26n.1.len:Nat):Int) v_29))*v_30))≤((z_26n.1.len:Nat):Int) then(bnd (cpy prog 23 23 (.slice (sla (some (p_36.add 14)) 0 128 1) (128 - 0) (128 - 0)) (.slice (sla z_26n.1.a (Int.toNat ((IntKind.i64.wrap ((IntKind.i64.wrap (Int.tdiv ((z_26n.1.len:Nat):Int) v_29))*v_30)))) z_26n.1.cap 1) (z_26n.1.len - (Int.toNat ((IntKind.i64.wrap ((IntKind.i64.wrap (Int.tdiv ((z_26n.1.len:Nat):Int) v_29))*v_30))))) (z_26n.1.cap - (Int.toNat ((IntKind.i64.wrap ((IntKind.i64.wrap (Int.tdiv ((z_26n.1.len:Nat):Int) v_29))*v_30)))))) w_35.drew) fun s_37 w_38=>
 some ((),w_38)) else none) else none) else none)
 | .ret z_26r=>(some ((),w_25)))) else none
theorem K_hk(K:Nat):StmtOk prog [(0,.ptr),(1,.sl),(4,.int .i64),(30,.bool)] [(1,.sl)] [] [(1,2),(5,6),(31,73)] (fun x w=>K_q K x.1 x.2.1 x.2.2.1 x.2.2.2.1 w) (cd (bodyOf f128) [1,1,0,1]):=
  K_yq (O:=tabL []) (root:=(bodyOf f128)) (π:=[1,1,0,1]) (K_br K) (K_bt K) rfl (Orc.nil _ _ _) (by kernel_rfl) (fun _ _=>by kernel_rfl)
noncomputable def K_9y (K:Nat):SE:=stmt [(0,.ptr),(1,.sl),(4,.int .i64),(30,.bool)] [(1,.sl)] [] [(1,2),(5,6),(31,73)] (fun x w=>K_q K x.1 x.2.1 x.2.2.1 x.2.2.2.1 w)
theorem K_er(K:Nat)(R:Rg)(h:subRB [(1,2),(5,6),(31,73)] R=true):(K_9y K).Ok prog R (cd (bodyOf f128) [1,1,0,1]):=K_5z (K_hk K) (K_1 h)
theorem K_9o:FunFacts prog 128 f128 (bodyOf f128) [(0,.ptr),(1,.sl)] [(0,107)]:=⟨func128,by kernel_rfl,by kernel_rfl,by kernel_rfl,by kernel_rfl,by kernel_rfl⟩
theorem K_hp(K:Nat)(x:TT [(0,.ptr),(1,.sl)])(w:World)(y:TR [])(w2:World)(h:K_28 K x.1 x.2.1 w=some (y,w2)):Calls prog 128 (encA [(0,.ptr),(1,.sl)] x).toArray w (fun e w3=>e= .returned (resV (encR [] y))∧w3=w2):=
  K_h (O:=tabL [([1,1,0,1],K_9y K)]) (Lp:=[(0,.ptr),(1,.sl)]) (Rt:=[]) (S:=(fun x w=>K_28 K x.1 x.2.1 w)) (K_br K) (K_bt K) rfl K_9o (Orc.cons (by kernel_rfl) (K_er K [(0,107)] (by kernel_rfl)) (Orc.nil _ _ _)) (fun _ _=>by kernel_rfl) x w y w2 h
noncomputable def K_8e (K:Nat):CE:=funE [(0,.ptr),(1,.sl)] [] (fun x w=>K_28 K x.1 x.2.1 w)
theorem K_ch(K:Nat):(K_8e K).Ok prog 128:=K_b K_9o fun x w y w2 h=>K_hp K x w y w2 h
noncomputable def K_jo (K:Nat):List (Nat×CE):=[(128,K_8e K)]
theorem K_9x(K:Nat):Env.Ok prog (tab (K_jo K)):=(Env.cons (K_ch K) (Env.nil _))
noncomputable def K_jz (K:Nat):List (Nat×RE):=[(127,K_i5 K)]
theorem K_9u(K:Nat):REnv.Ok prog (tab (K_jz K)):=(REnv.cons (K_s7 K) (REnv.nil _))
noncomputable def K_1y (K:Nat) (rec:Option Addr→Sl→Int→Int→World→Option ((Unit)×World)) (s0:Option Addr) (a19:Sl) (a20:Int) (a21:Int) (w:World):Option ((Unit)×World):=
 if (decide (a21<a20))=true then((a19.a).bind fun p_4=>
 if (0:Int)≤a21∧a21<((a19.len:Nat):Int) then((ldS (p_4.add ((Int.toNat a21)*1)) w).bind fun v_5=>
 (s0).bind fun p_6=>
 bnd (K_28 K (some (p_6.add 0)) v_5 w) fun r_7 w_8=>
 rec s0 a19 a20 (IntKind.i64.wrap (a21+1)) w_8) else none) else(some ((),w))
noncomputable def K_u (K:Nat) (n:Nat):Option Addr→Sl→Int→Int→World→Option ((Unit)×World):=iter (fun _ _ _ _ _=>none) (K_1y K) n
noncomputable def K_2n (K:Nat) (s0:Option Addr) (parts1:Sl) (w:World):Option ((Int×Unit)×World):=
 if s0.isNone=true then(some ((1,()),w)) else((s0).bind fun p_1=>
 (ldI .u64 ((p_1.add 0).add 5) w.drew).bind fun v_2=>
 (K_7e K parts1 w.drew).bind fun r_3=>
 if (decide ((IntKind.u64.wrap (v_2+(IntKind.u64.wrap r_3.1))) > 33554432))=true then(some ((4,()),w.drew)) else(bnd (K_u K K s0 parts1 ((parts1.len:Nat):Int) 0 w.drew) fun y_9 w_10=>
 some ((0,()),w_10)))
theorem K_fu(K:Nat)(n:Nat):StmtNOk prog [(0,.ptr),(19,.sl),(20,.int .i64),(21,.int .i64)] [] [(6,7),(21,31)] ((fun n x w=>K_u K n x.1 x.2.1 x.2.2.1 x.2.2.2.1 w) n) (.block 0 (.loop (cd (bodyOf f106) [1,1,1,0,1,0,0]))):=
  K_9 (O:=tabL []) (root:=(bodyOf f106)) (π:=[1,1,1,0,1,0,0]) (Li:=[(0,.ptr),(19,.sl),(20,.int .i64),(21,.int .i64)]) (Lo:=[]) (S:=(fun n x w=>K_u K n x.1 x.2.1 x.2.2.1 x.2.2.2.1 w)) (K_9x K) (K_9u K) rfl (Orc.nil _ _ _) (by kernel_rfl) (fun _ _=>by kernel_rfl) (fun _ _ _=>by kernel_rfl) n
noncomputable def K_90 (K:Nat):SE:=stmtN [(0,.ptr),(19,.sl),(20,.int .i64),(21,.int .i64)] [] [(6,7),(21,31)] (fun x w=>K_u K K x.1 x.2.1 x.2.2.1 x.2.2.2.1 w)
theorem K_db(K:Nat)(R:Rg)(h:subRB [(6,7),(21,31)] R=true):(K_90 K).Ok prog R (.block 0 (.loop (cd (bodyOf f106) [1,1,1,0,1,0,0]))):=K_2 (K_fu K K) (K_1 h)
theorem K_8x:FunFacts prog 106 f106 (bodyOf f106) [(0,.ptr),(1,.sl)] [(0,31)]:=⟨func106,by kernel_rfl,by kernel_rfl,by kernel_rfl,by kernel_rfl,by kernel_rfl⟩
theorem K_fs(K:Nat)(x:TT [(0,.ptr),(1,.sl)])(w:World)(y:TR [.int .i64])(w2:World)(h:K_2n K x.1 x.2.1 w=some (y,w2)):Calls prog 106 (encA [(0,.ptr),(1,.sl)] x).toArray w (fun e w3=>e= .returned (resV (encR [.int .i64] y))∧w3=w2):=
  K_h (O:=tabL [([1,1,1,0,1],K_90 K)]) (Lp:=[(0,.ptr),(1,.sl)]) (Rt:=[.int .i64]) (S:=(fun x w=>K_2n K x.1 x.2.1 w)) (K_9x K) (K_9u K) rfl K_8x (Orc.cons (by kernel_rfl) (K_db K [(0,31)] (by kernel_rfl)) (Orc.nil _ _ _)) (fun _ _=>by kernel_rfl) x w y w2 h
noncomputable def K_al (K:Nat):CE:=funE [(0,.ptr),(1,.sl)] [.int .i64] (fun x w=>K_2n K x.1 x.2.1 w)
theorem K_ih(K:Nat):(K_al K).Ok prog 106:=K_b K_8x fun x w y w2 h=>K_fs K x w y w2 h
end Go.Sh

namespace Go.Sh
open Go.Fw Go.Proofs.Tryd
noncomputable def K_w8 (K:Nat):List (Nat×CE):=[]
theorem K_jg(K:Nat):Env.Ok prog (tab (K_w8 K)):=(Env.nil _)
noncomputable def K_wf (K:Nat):List (Nat×RE):=[]
theorem K_kg(K:Nat):REnv.Ok prog (tab (K_wf K)):=(REnv.nil _)
noncomputable def K_6w (K:Nat) (rec:Sl→Int→Int→World→Option ((Sl×Unit)×World)) (out0:Sl) (x1:Int) (i7:Int) (w:World):Option ((Sl×Unit)×World):=
 if (decide (i7≥0))=true then(if (0:Int)≤(IntKind.i64.wrap (8*i7)) then(bnd (bldS prog 23 1 #[(0,(.int .u8 (IntKind.u8.wrap (Int.fdiv x1 (2 ^ (min (Int.toNat (IntKind.i64.wrap (8*i7))) IntKind.u64.bits))))))] w) fun s_1 w_2=>
 bnd (apd prog 23 23 (.slice out0.a out0.len out0.cap) (.slice s_1.a s_1.len s_1.cap) w_2) fun s_3 w_4=>
 rec s_3 x1 (IntKind.i64.wrap (i7 - 1)) w_4) else none) else(some ((out0,()),w))
noncomputable def K_56 (K:Nat) (n:Nat):Sl→Int→Int→World→Option ((Sl×Unit)×World):=iter (fun _ _ _ _=>none) (K_6w K) n
noncomputable def K_9j (K:Nat) (out0:Sl) (x1:Int) (n2:Int) (w:World):Option ((Sl×Unit)×World):=
 bnd (K_56 K K out0 x1 (IntKind.i64.wrap (n2 - 1)) w) fun y_5 w_6=>
 some ((y_5.1,()),w_6)
theorem K_rf(K:Nat)(n:Nat):StmtNOk prog [(0,.sl),(1,.int .u64),(7,.int .i64)] [(0,.sl)] [(0,1),(7,8),(10,22)] ((fun n x w=>K_56 K n x.1 x.2.1 x.2.2.1 w) n) (.block 0 (.loop (cd (bodyOf f137) [1,0,1,0,0]))):=
  K_9 (O:=tabL []) (root:=(bodyOf f137)) (π:=[1,0,1,0,0]) (Li:=[(0,.sl),(1,.int .u64),(7,.int .i64)]) (Lo:=[(0,.sl)]) (S:=(fun n x w=>K_56 K n x.1 x.2.1 x.2.2.1 w)) (K_jg K) (K_kg K) rfl (Orc.nil _ _ _) (by kernel_rfl) (fun _ _=>by kernel_rfl) (fun _ _ _=>by kernel_rfl) n
noncomputable def K_gv (K:Nat):SE:=stmtN [(0,.sl),(1,.int .u64),(7,.int .i64)] [(0,.sl)] [(0,1),(7,8),(10,22)] (fun x w=>K_56 K K x.1 x.2.1 x.2.2.1 w)
theorem K_mu(K:Nat)(R:Rg)(h:subRB [(0,1),(7,8),(10,22)] R=true):(K_gv K).Ok prog R (.block 0 (.loop (cd (bodyOf f137) [1,0,1,0,0]))):=K_2 (K_rf K K) (K_1 h)
theorem K_gs:FunFacts prog 137 f137 (bodyOf f137) [(0,.sl),(1,.int .u64),(2,.int .i64)] [(0,23)]:=⟨func137,by kernel_rfl,by kernel_rfl,by kernel_rfl,by kernel_rfl,by kernel_rfl⟩
theorem K_r7(K:Nat)(x:TT [(0,.sl),(1,.int .u64),(2,.int .i64)])(w:World)(y:TR [.sl])(w2:World)(h:K_9j K x.1 x.2.1 x.2.2.1 w=some (y,w2)):Calls prog 137 (encA [(0,.sl),(1,.int .u64),(2,.int .i64)] x).toArray w (fun e w3=>e= .returned (resV (encR [.sl] y))∧w3=w2):=
  K_h (O:=tabL [([1,0,1],K_gv K)]) (Lp:=[(0,.sl),(1,.int .u64),(2,.int .i64)]) (Rt:=[.sl]) (S:=(fun x w=>K_9j K x.1 x.2.1 x.2.2.1 w)) (K_jg K) (K_kg K) rfl K_gs (Orc.cons (by kernel_rfl) (K_mu K [(0,23)] (by kernel_rfl)) (Orc.nil _ _ _)) (fun _ _=>by kernel_rfl) x w y w2 h
noncomputable def K_mi (K:Nat):CE:=funE [(0,.sl),(1,.int .u64),(2,.int .i64)] [.sl] (fun x w=>K_9j K x.1 x.2.1 x.2.2.1 w)
theorem K_vn(K:Nat):(K_mi K).Ok prog 137:=K_b K_gs fun x w y w2 h=>K_r7 K x w y w2 h
noncomputable def K_o5 (K:Nat):List (Nat×CE):=[(128,K_8e K),(137,K_mi K)]
theorem K_5n(K:Nat):Env.Ok prog (tab (K_o5 K)):=(Env.cons (K_ch K) (Env.cons (K_vn K) (Env.nil _)))
noncomputable def K_oj (K:Nat):List (Nat×RE):=[]
theorem K_5p(K:Nat):REnv.Ok prog (tab (K_oj K)):=(REnv.nil _)
noncomputable def K_3a (K:Nat) (rec:Addr→Int→Addr→Int→World→Option ((Int×Unit)×World)) (s1:Addr) (bits3:Int) (pad4:Addr) (n5:Int) (w:World):Option ((Int×Unit)×World):=
 (ldI .u64 (s1.add 5) w.drew).bind fun v_7=>
 (ldI .i64 ((s1.add 0).add 1) w.drew).bind fun v_8=>
 if (IntKind.u64.wrap v_8)≠0 then((ldI .i64 ((s1.add 0).add 2) w.drew).bind fun v_9=>
 (ldI .i64 ((s1.add 0).add 1) w.drew).bind fun v_10=>
 if v_10≠0 then(if ((Int.tmod (IntKind.i64.wrap ((IntKind.i64.wrap ((IntKind.i64.wrap (Int.tmod v_7 (IntKind.u64.wrap v_8)))+n5))+(IntKind.i64.wrap (2*v_9)))) v_10) != 0)=true then(rec s1 bits3 pad4 (IntKind.i64.wrap (n5+1)) w.drew) else(some ((n5,()),w.drew))) else none) else none
noncomputable def K_17 (K:Nat) (n:Nat):Addr→Int→Addr→Int→World→Option ((Int×Unit)×World):=iter (fun _ _ _ _ _=>none) (K_3a K) n
noncomputable def K_33 (K:Nat) (rec:Addr→Int→Addr→Int→Int→World→Option ((Unit)×World)) (s1:Addr) (bits3:Int) (pad4:Addr) (n5:Int) (a42:Int) (w:World):Option ((Unit)×World):=
 if (decide (a42<8))=true then(if (0:Int)≤(IntKind.i64.wrap (8*a42)) then(if (0:Int)≤(IntKind.i64.wrap ((IntKind.i64.wrap (n5 - 1)) - a42))∧(IntKind.i64.wrap ((IntKind.i64.wrap (n5 - 1)) - a42))<((256:Nat):Int) then((stC (pad4.add ((Int.toNat (IntKind.i64.wrap ((IntKind.i64.wrap (n5 - 1)) - a42)))*1)) (.int .u8 (IntKind.u8.wrap (Int.fdiv bits3 (2 ^ (min (Int.toNat (IntKind.i64.wrap (8*a42))) IntKind.u64.bits))))) w).bind fun w_14=>
 rec s1 bits3 pad4 n5 (IntKind.i64.wrap (a42+1)) w_14) else none) else none) else(some ((),w))
noncomputable def K_1a (K:Nat) (n:Nat):Addr→Int→Addr→Int→Int→World→Option ((Unit)×World):=iter (fun _ _ _ _ _ _=>none) (K_33 K) n
noncomputable def K_3e (K:Nat) (rec:Addr→Sl→Array Value→Int→World→Option ((Sl×Unit)×World)) (s1:Addr) (out7:Sl) (a61:Array Value) (a62:Int) (w:World):Option ((Sl×Unit)×World):=
 if (decide (a62<8))=true then(if (0:Int)≤a62∧a62<((8:Nat):Int) then((a61[((Int.toNat a62)*1)]?).bind fun v_22=>
 (asI .u64 v_22).bind fun v_23=>
 (ldI .i64 ((s1.add 0).add 2) w).bind fun v_24=>
 bnd (K_9j K out7 v_23 v_24 w) fun r_25 w_26=>
 rec s1 r_25.1 a61 (IntKind.i64.wrap (a62+1)) w_26) else none) else(some ((out7,()),w))
noncomputable def K_19 (K:Nat) (n:Nat):Addr→Sl→Array Value→Int→World→Option ((Sl×Unit)×World):=iter (fun _ _ _ _ _=>none) (K_3e K) n
noncomputable def K_49 (K:Nat) (s0:Array Value) (w:World):Option ((Sl×Unit)×World):=
 bnd (newB s0 180 w) fun p_1 w_2=>
 (ldI .u64 (p_1.add 5) w_2).bind fun v_3=>
 bnd (newB z188 188 w_2) fun pad_4 w_5=>
 (stC (pad_4.add (0*1)) (.int .u8 128) w_5).bind fun w_6=>
 bnd (K_17 K K p_1 (IntKind.u64.wrap (v_3*8)) pad_4 1 w_6) fun y_11 w_12=>
 (ldI .i64 ((p_1.add 0).add 2) w_12).bind fun v_13=>
 bnd (K_1a K K p_1 (IntKind.u64.wrap (v_3*8)) pad_4 (IntKind.i64.wrap (y_11.1+(IntKind.i64.wrap (2*v_13)))) 0 w_12) fun y_15 w_16=>
 if (0:Int)≤(IntKind.i64.wrap (y_11.1+(IntKind.i64.wrap (2*v_13))))∧(IntKind.i64.wrap (y_11.1+(IntKind.i64.wrap (2*v_13))))≤((256:Nat):Int) then(bnd (K_28 K (some p_1) ⟨(sla (some pad_4) 0 256 1),((Int.toNat ((IntKind.i64.wrap (y_11.1+(IntKind.i64.wrap (2*v_13)))))) - 0),(256 - 0)⟩ w_16) fun r_17 w_18=>
 bnd (mkS prog 23 (.int .i64 0) (.int .i64 64) w_18) fun s_19 w_20=>
 (ldA 8 (p_1.add 6) w_20).bind fun v_21=>
 bnd (K_19 K K p_1 s_19 v_21 0 w_20) fun y_27 w_28=>
 (ldI .i64 ((p_1.add 0).add 0) w_28).bind fun v_29=>
 (ldI .i64 ((p_1.add 0).add 0) w_28).bind fun v_30=>
 if (0:Int)≤v_30∧v_30≤((y_27.1.cap:Nat):Int) then(if (0:Int)≤v_29∧v_29≤(((Int.toNat (v_30)):Nat):Int) then(some ((⟨(sla y_27.1.a 0 (Int.toNat (v_30)) 1),((Int.toNat (v_29)) - 0),((Int.toNat (v_30)) - 0)⟩,()),w_28)) else none) else none) else none
theorem K_is(K:Nat)(n:Nat):StmtNOk prog [(1,.addr),(3,.int .u64),(4,.addr),(5,.int .i64)] [(5,.int .i64)] [(5,6),(14,36)] ((fun n x w=>K_17 K n x.1 x.2.1 x.2.2.1 x.2.2.2.1 w) n) (.block 0 (.loop (cd (bodyOf f129) [1,1,1,1,1,0,0,0]))):=
  K_9 (O:=tabL []) (root:=(bodyOf f129)) (π:=[1,1,1,1,1,0,0,0]) (Li:=[(1,.addr),(3,.int .u64),(4,.addr),(5,.int .i64)]) (Lo:=[(5,.int .i64)]) (S:=(fun n x w=>K_17 K n x.1 x.2.1 x.2.2.1 x.2.2.2.1 w)) (K_5n K) (K_5p K) rfl (Orc.nil _ _ _) (by kernel_rfl) (fun _ _=>by kernel_rfl) (fun _ _ _=>by kernel_rfl) n
noncomputable def K_am (K:Nat):SE:=stmtN [(1,.addr),(3,.int .u64),(4,.addr),(5,.int .i64)] [(5,.int .i64)] [(5,6),(14,36)] (fun x w=>K_17 K K x.1 x.2.1 x.2.2.1 x.2.2.2.1 w)
theorem K_fo(K:Nat)(R:Rg)(h:subRB [(5,6),(14,36)] R=true):(K_am K).Ok prog R (.block 0 (.loop (cd (bodyOf f129) [1,1,1,1,1,0,0,0]))):=K_2 (K_is K K) (K_1 h)
theorem K_ix(K:Nat)(n:Nat):StmtNOk prog [(1,.addr),(3,.int .u64),(4,.addr),(5,.int .i64),(42,.int .i64)] [] [(6,7),(42,56)] ((fun n x w=>K_1a K n x.1 x.2.1 x.2.2.1 x.2.2.2.1 x.2.2.2.2.1 w) n) (.block 2 (.loop (cd (bodyOf f129) [1,1,1,1,1,1,1,0,1,0,0]))):=
  K_9 (O:=tabL []) (root:=(bodyOf f129)) (π:=[1,1,1,1,1,1,1,0,1,0,0]) (Li:=[(1,.addr),(3,.int .u64),(4,.addr),(5,.int .i64),(42,.int .i64)]) (Lo:=[]) (S:=(fun n x w=>K_1a K n x.1 x.2.1 x.2.2.1 x.2.2.2.1 x.2.2.2.2.1 w)) (K_5n K) (K_5p K) rfl (Orc.nil _ _ _) (by kernel_rfl) (fun _ _=>by kernel_rfl) (fun _ _ _=>by kernel_rfl) n
noncomputable def K_aq (K:Nat):SE:=stmtN [(1,.addr),(3,.int .u64),(4,.addr),(5,.int .i64),(42,.int .i64)] [] [(6,7),(42,56)] (fun x w=>K_1a K K x.1 x.2.1 x.2.2.1 x.2.2.2.1 x.2.2.2.2.1 w)
theorem K_fl(K:Nat)(R:Rg)(h:subRB [(6,7),(42,56)] R=true):(K_aq K).Ok prog R (.block 2 (.loop (cd (bodyOf f129) [1,1,1,1,1,1,1,0,1,0,0]))):=K_2 (K_ix K K) (K_1 h)
theorem K_id(K:Nat)(n:Nat):StmtNOk prog [(1,.addr),(7,.sl),(61,.agg),(62,.int .i64)] [(7,.sl)] [(7,8),(9,10),(62,72)] ((fun n x w=>K_19 K n x.1 x.2.1 x.2.2.1 x.2.2.2.1 w) n) (.block 4 (.loop (cd (bodyOf f129) [1,1,1,1,1,1,1,1,1,1,0,1,0,0]))):=
  K_9 (O:=tabL []) (root:=(bodyOf f129)) (π:=[1,1,1,1,1,1,1,1,1,1,0,1,0,0]) (Li:=[(1,.addr),(7,.sl),(61,.agg),(62,.int .i64)]) (Lo:=[(7,.sl)]) (S:=(fun n x w=>K_19 K n x.1 x.2.1 x.2.2.1 x.2.2.2.1 w)) (K_5n K) (K_5p K) rfl (Orc.nil _ _ _) (by kernel_rfl) (fun _ _=>by kernel_rfl) (fun _ _ _=>by kernel_rfl) n
noncomputable def K_au (K:Nat):SE:=stmtN [(1,.addr),(7,.sl),(61,.agg),(62,.int .i64)] [(7,.sl)] [(7,8),(9,10),(62,72)] (fun x w=>K_19 K K x.1 x.2.1 x.2.2.1 x.2.2.2.1 w)
theorem K_fm(K:Nat)(R:Rg)(h:subRB [(7,8),(9,10),(62,72)] R=true):(K_au K).Ok prog R (.block 4 (.loop (cd (bodyOf f129) [1,1,1,1,1,1,1,1,1,1,0,1,0,0]))):=K_2 (K_id K K) (K_1 h)
theorem K_ao:FunFacts prog 129 f129 (bodyOf f129) [(0,.agg)] [(0,80)]:=⟨func129,by kernel_rfl,by kernel_rfl,by kernel_rfl,by kernel_rfl,by kernel_rfl⟩
theorem K_iv(K:Nat)(x:TT [(0,.agg)])(w:World)(y:TR [.sl])(w2:World)(h:K_49 K x.1 w=some (y,w2)):Calls prog 129 (encA [(0,.agg)] x).toArray w (fun e w3=>e= .returned (resV (encR [.sl] y))∧w3=w2):=
  K_h (O:=tabL [([1,1,1,1,1,0],K_am K),([1,1,1,1,1,1,1,0,1],K_aq K),([1,1,1,1,1,1,1,1,1,1,0,1],K_au K)]) (Lp:=[(0,.agg)]) (Rt:=[.sl]) (S:=(fun x w=>K_49 K x.1 w)) (K_5n K) (K_5p K) rfl K_ao (Orc.cons (by kernel_rfl) (K_fo K [(0,80)] (by kernel_rfl)) (Orc.cons (by kernel_rfl) (K_fl K [(0,80)] (by kernel_rfl)) (Orc.cons (by kernel_rfl) (K_fm K [(0,80)] (by kernel_rfl)) (Orc.nil _ _ _)))) (fun _ _=>by kernel_rfl) x w y w2 h
noncomputable def K_d3 (K:Nat):CE:=funE [(0,.agg)] [.sl] (fun x w=>K_49 K x.1 w)
theorem K_nb(K:Nat):(K_d3 K).Ok prog 129:=K_b K_ao fun x w y w2 h=>K_iv K x w y w2 h
noncomputable def K_ni (K:Nat):List (Nat×CE):=[(129,K_d3 K)]
theorem K_kq(K:Nat):Env.Ok prog (tab (K_ni K)):=(Env.cons (K_nb K) (Env.nil _))
noncomputable def K_mp (K:Nat):List (Nat×RE):=[]
theorem K_jt(K:Nat):REnv.Ok prog (tab (K_mp K)):=(REnv.nil _)
noncomputable def K_3u (K:Nat) (s0:Option Addr) (w:World):Option ((Sl×Unit)×World):=
 if s0.isNone=true then(some ((⟨none,0,0⟩,()),w)) else((s0).bind fun p_1=>
 (ldA 142 (p_1.add 0) w).bind fun v_2=>
 bnd (K_49 K v_2 w) fun r_3 w_4=>
 some ((r_3.1,()),w_4))
theorem K_9q:FunFacts prog 107 f107 (bodyOf f107) [(0,.ptr)] [(0,10)]:=⟨func107,by kernel_rfl,by kernel_rfl,by kernel_rfl,by kernel_rfl,by kernel_rfl⟩
theorem K_he(K:Nat)(x:TT [(0,.ptr)])(w:World)(y:TR [.sl])(w2:World)(h:K_3u K x.1 w=some (y,w2)):Calls prog 107 (encA [(0,.ptr)] x).toArray w (fun e w3=>e= .returned (resV (encR [.sl] y))∧w3=w2):=
  K_h (O:=tabL []) (Lp:=[(0,.ptr)]) (Rt:=[.sl]) (S:=(fun x w=>K_3u K x.1 w)) (K_kq K) (K_jt K) rfl K_9q (Orc.nil _ _ _) (fun _ _=>by kernel_rfl) x w y w2 h
noncomputable def K_c4 (K:Nat):CE:=funE [(0,.ptr)] [.sl] (fun x w=>K_3u K x.1 w)
theorem K_ks(K:Nat):(K_c4 K).Ok prog 107:=K_b K_9q fun x w y w2 h=>K_he K x w y w2 h
noncomputable def K_w9 (K:Nat):List (Nat×CE):=[(105,K_mb K),(106,K_al K),(107,K_c4 K)]
theorem K_j1(K:Nat):Env.Ok prog (tab (K_w9 K)):=(Env.cons (K_va K) (Env.cons (K_ih K) (Env.cons (K_ks K) (Env.nil _))))
noncomputable def K_vx (K:Nat):List (Nat×RE):=[]
theorem K_jd(K:Nat):REnv.Ok prog (tab (K_vx K)):=(REnv.nil _)
noncomputable def K_az (K:Nat) (parts1:Sl) (s6:Option Addr) (e7:Int) (a14:Bool) (w:World):Option ((Int×Unit)×World):=
 if a14=true then(bnd (K_2n K s6 parts1 w) fun r_3 w_4=>
 some ((r_3.1,()),w_4)) else(some ((e7,()),w))
noncomputable def K_84 (K:Nat) (hash0:Int) (parts1:Sl) (w:World):Option ((Sl×Int×Unit)×World):=
 bnd (K_86 K hash0 w) fun r_1 w_2=>
 bnd (K_az K parts1 r_1.1 r_1.2.1 (r_1.2.1 == 0) w_2) fun y_5 w_6=>
 if (y_5.1 != 0)=true then(some ((⟨none,0,0⟩,y_5.1,()),w_6)) else(bnd (K_3u K r_1.1 w_6) fun r_7 w_8=>
 some ((r_7.1,0,()),w_8))
theorem K_ri(K:Nat):StmtNOk prog [(1,.sl),(6,.ptr),(7,.int .i64),(14,.bool)] [(7,.int .i64)] [(7,8),(15,18)] (fun x w=>K_az K x.1 x.2.1 x.2.2.1 x.2.2.2.1 w) (cd (bodyOf f79) [1,1,0,1]):=
  K_y (O:=tabL []) (root:=(bodyOf f79)) (π:=[1,1,0,1]) (K_j1 K) (K_jd K) rfl (Orc.nil _ _ _) (by kernel_rfl) (fun _ _=>by kernel_rfl)
noncomputable def K_hb (K:Nat):SE:=stmtN [(1,.sl),(6,.ptr),(7,.int .i64),(14,.bool)] [(7,.int .i64)] [(7,8),(15,18)] (fun x w=>K_az K x.1 x.2.1 x.2.2.1 x.2.2.2.1 w)
theorem K_mv(K:Nat)(R:Rg)(h:subRB [(7,8),(15,18)] R=true):(K_hb K).Ok prog R (cd (bodyOf f79) [1,1,0,1]):=K_2 (K_ri K) (K_1 h)
theorem K_gu:FunFacts prog 79 f79 (bodyOf f79) [(0,.int .i64),(1,.sl)] [(0,23)]:=⟨func79,by kernel_rfl,by kernel_rfl,by kernel_rfl,by kernel_rfl,by kernel_rfl⟩
theorem K_ra(K:Nat)(x:TT [(0,.int .i64),(1,.sl)])(w:World)(y:TR [.sl,.int .i64])(w2:World)(h:K_84 K x.1 x.2.1 w=some (y,w2)):Calls prog 79 (encA [(0,.int .i64),(1,.sl)] x).toArray w (fun e w3=>e= .returned (resV (encR [.sl,.int .i64] y))∧w3=w2):=
  K_h (O:=tabL [([1,1,0,1],K_hb K)]) (Lp:=[(0,.int .i64),(1,.sl)]) (Rt:=[.sl,.int .i64]) (S:=(fun x w=>K_84 K x.1 x.2.1 w)) (K_j1 K) (K_jd K) rfl K_gu (Orc.cons (by kernel_rfl) (K_mv K [(0,23)] (by kernel_rfl)) (Orc.nil _ _ _)) (fun _ _=>by kernel_rfl) x w y w2 h
noncomputable def K_mk (K:Nat):CE:=funE [(0,.int .i64),(1,.sl)] [.sl,.int .i64] (fun x w=>K_84 K x.1 x.2.1 w)
theorem K_vs(K:Nat):(K_mk K).Ok prog 79:=K_b K_gu fun x w y w2 h=>K_ra K x w y w2 h
noncomputable def K_h8:List (Nat×CE):=[]
theorem K_em:Env.Ok prog (tab (K_h8)):=(Env.nil _)
noncomputable def K_hc:List (Nat×RE):=[]
theorem K_eq:REnv.Ok prog (tab (K_hc)):=(REnv.nil _)
noncomputable def K_e (s0:Sl) (w:World):Option ((Sl×Unit)×World):=
 if s0.a.isNone=true then(some ((⟨none,0,0⟩,()),w)) else(bnd (bldS prog 23 0 #[] w) fun s_1 w_2=>
 bnd (apd prog 23 23 (.slice s_1.a s_1.len s_1.cap) (.slice s0.a s0.len s0.cap) w_2) fun s_3 w_4=>
 some ((s_3,()),w_4))
theorem K_7a:FunFacts prog 80 f80 (bodyOf f80) [(0,.sl)] [(0,8)]:=⟨func80,by kernel_rfl,by kernel_rfl,by kernel_rfl,by kernel_rfl,by kernel_rfl⟩
theorem K_dl(x:TT [(0,.sl)])(w:World)(y:TR [.sl])(w2:World)(h:K_e x.1 w=some (y,w2)):Calls prog 80 (encA [(0,.sl)] x).toArray w (fun e w3=>e= .returned (resV (encR [.sl] y))∧w3=w2):=
  K_h (O:=tabL []) (Lp:=[(0,.sl)]) (Rt:=[.sl]) (S:=(fun x w=>K_e x.1 w)) (K_em) (K_eq) rfl K_7a (Orc.nil _ _ _) (fun _ _=>by kernel_rfl) x w y w2 h
noncomputable def K_3h:CE:=funE [(0,.sl)] [.sl] (fun x w=>K_e x.1 w)
theorem K_5k:(K_3h).Ok prog 80:=K_b K_7a fun x w y w2 h=>K_dl x w y w2 h
noncomputable def K_w6 (K:Nat):List (Nat×CE):=[(79,K_mk K),(80,K_3h)]
theorem K_u4(K:Nat):Env.Ok prog (tab (K_w6 K)):=(Env.cons (K_vs K) (Env.cons (K_5k) (Env.nil _)))
noncomputable def K_xi (K:Nat):List (Nat×RE):=[]
theorem K_tq(K:Nat):REnv.Ok prog (tab (K_xi K)):=(REnv.nil _)
noncomputable def K_8d (K:Nat) (set0:Int) (secret1:Sl) (w:World):Option ((Sl×Unit)×World):=
 bnd (bldS prog 23 2 #[(0,(.int .u8 (IntKind.u8.wrap (Int.fdiv set0 (2 ^ 8))))),(1,(.int .u8 (IntKind.u8.wrap set0)))] w) fun s_1 w_2=>
 bnd (bldS prog 67 2 #[(0,(.slice s_1.a s_1.len s_1.cap)),(1,(.slice secret1.a secret1.len secret1.cap))] w_2) fun s_3 w_4=>
 bnd (K_84 K 256 s_3 w_4) fun r_5 w_6=>
 if (0:Int)≤4∧4≤((r_5.1.cap:Nat):Int) then(bnd (K_e secret1 w_6.drew) fun r_7 w_8=>
 bnd (apd prog 23 23 (.slice r_7.1.a r_7.1.len r_7.1.cap) (.slice (sla r_5.1.a 0 r_5.1.cap 1) (4 - 0) (r_5.1.cap - 0)) w_8) fun s_9 w_10=>
 some ((s_9,()),w_10)) else none
theorem K_gz:FunFacts prog 52 f52 (bodyOf f52) [(0,.int .u16),(1,.sl)] [(0,24)]:=⟨func52,by kernel_rfl,by kernel_rfl,by kernel_rfl,by kernel_rfl,by kernel_rfl⟩
theorem K_rt(K:Nat)(x:TT [(0,.int .u16),(1,.sl)])(w:World)(y:TR [.sl])(w2:World)(h:K_8d K x.1 x.2.1 w=some (y,w2)):Calls prog 52 (encA [(0,.int .u16),(1,.sl)] x).toArray w (fun e w3=>e= .returned (resV (encR [.sl] y))∧w3=w2):=
  K_h (O:=tabL []) (Lp:=[(0,.int .u16),(1,.sl)]) (Rt:=[.sl]) (S:=(fun x w=>K_8d K x.1 x.2.1 w)) (K_u4 K) (K_tq K) rfl K_gz (Orc.nil _ _ _) (fun _ _=>by kernel_rfl) x w y w2 h
noncomputable def K_en (K:Nat):CE:=funE [(0,.int .u16),(1,.sl)] [.sl] (fun x w=>K_8d K x.1 x.2.1 w)
theorem K_mn(K:Nat):(K_en K).Ok prog 52:=K_b K_gz fun x w y w2 h=>K_rt K x w y w2 h
noncomputable def K_rx:List (Nat×CE):=[]
theorem K_o6:Env.Ok prog (tab (K_rx)):=(Env.nil _)
noncomputable def K_r4:List (Nat×RE):=[]
theorem K_ot:REnv.Ok prog (tab (K_r4)):=(REnv.nil _)
noncomputable def K_60 (coefficients0:Sl) (w:World):Option ((Value×Unit)×World):=
 bnd (newB #[(.slice coefficients0.a coefficients0.len coefficients0.cap)] 23 w) fun p_1 w_2=>
 some (((.func (.func 81) #[] #[(.pointer (some p_1))]),()),w_2)
theorem K_cf:FunFacts prog 53 f53 (bodyOf f53) [(0,.sl)] [(0,4)]:=⟨func53,by kernel_rfl,by kernel_rfl,by kernel_rfl,by kernel_rfl,by kernel_rfl⟩
theorem K_lg(x:TT [(0,.sl)])(w:World)(y:TR [.val])(w2:World)(h:K_60 x.1 w=some (y,w2)):Calls prog 53 (encA [(0,.sl)] x).toArray w (fun e w3=>e= .returned (resV (encR [.val] y))∧w3=w2):=
  K_h (O:=tabL []) (Lp:=[(0,.sl)]) (Rt:=[.val]) (S:=(fun x w=>K_60 x.1 w)) (K_o6) (K_ot) rfl K_cf (Orc.nil _ _ _) (fun _ _=>by kernel_rfl) x w y w2 h
noncomputable def K_f0:CE:=funE [(0,.sl)] [.val] (fun x w=>K_60 x.1 w)
theorem K_pe:(K_f0).Ok prog 53:=K_b K_cf fun x w y w2 h=>K_lg x w y w2 h
noncomputable def K_rq (K:Nat):List (Nat×RE):=[]
theorem K_93(K:Nat):REnv.Ok prog (tab (K_rq K)):=(REnv.nil _)
noncomputable def K_5i (K:Nat) (a0:Int) (p5:Int) (a11:Bool):Option (Out (Int×Unit) (Int×Unit)):=
 if a11=true then(some (.norm ((bits .xor .u8 p5 a0),()))) else(some (.norm (p5,())))
noncomputable def K_2m (K:Nat) (rec:Int→Int→Int→Option (Out (Int×Unit) (Int×Unit))) (a0:Int) (b1:Int) (p5:Int):Option (Out (Int×Unit) (Int×Unit)):=
 if (b1 != 0)=true then((K_5i K a0 p5 ((bits .and .u8 b1 1) != 0)).bind fun y_1=>
 (match y_1 with
 | .norm z_2n=>(if ((bits .and .u8 a0 128) != 0)=true then(rec (bits .xor .u8 (IntKind.u8.wrap (a0*2 ^ 1)) 27) (Int.fdiv b1 (2 ^ 1)) z_2n.1) else(rec (IntKind.u8.wrap (a0*2 ^ 1)) (Int.fdiv b1 (2 ^ 1)) z_2n.1))
 | .ret z_2r=>(some (.ret (z_2r.1,()))))) else(some (.norm (p5,())))
noncomputable def K_1s (K:Nat) (n:Nat):Int→Int→Int→Option (Out (Int×Unit) (Int×Unit)):=iter (fun _ _ _=>none) (K_2m K) n
noncomputable def K_d (K:Nat) (a0:Int) (b1:Int):Option (Int×Unit):=
 (K_1s K K a0 b1 0).bind fun y_3=>
 (match y_3 with
 | .norm z_4n=>(some (z_4n.1,()))
 | .ret z_4r=>(some (z_4r.1,())))
theorem K_lh(K:Nat):StmtQOk prog [(0,.int .u8),(5,.int .u8),(11,.bool)] [(5,.int .u8)] [(4,.int .u8)] [(5,6),(12,15)] (fun x w=>K_5i K x.1 x.2.1 x.2.2.1) (cd (bodyOf f61) [1,1,0,0,0,1,0,0,1]):=
  K_l7 (O:=tabL []) (root:=(bodyOf f61)) (π:=[1,1,0,0,0,1,0,0,1]) (K_93 K) (OrcQ.nil _ _ _) (by kernel_rfl) (fun _ _=>by kernel_rfl)
noncomputable def K_8b (K:Nat):SQ:=stmtQ [(0,.int .u8),(5,.int .u8),(11,.bool)] [(5,.int .u8)] [(4,.int .u8)] [(5,6),(12,15)] (fun x w=>K_5i K x.1 x.2.1 x.2.2.1)
theorem K_9w(K:Nat)(R:Rg)(h:subRB [(5,6),(12,15)] R=true):(K_8b K).Ok prog R (cd (bodyOf f61) [1,1,0,0,0,1,0,0,1]):=K_9b (K_lh K) (K_1 h)
theorem K_l5(K:Nat)(n:Nat):StmtQOk prog [(0,.int .u8),(1,.int .u8),(5,.int .u8)] [(5,.int .u8)] [(4,.int .u8)] [(0,2),(5,25)] ((fun n x w=>K_1s K n x.1 x.2.1 x.2.2.1) n) (.block 0 (.loop (cd (bodyOf f61) [1,1,0,0,0]))):=
  K_l1 (O:=tabL [([1,1,0,0,0,1,0,0,1],K_8b K)]) (root:=(bodyOf f61)) (π:=[1,1,0,0,0]) (Li:=[(0,.int .u8),(1,.int .u8),(5,.int .u8)]) (Lo:=[(5,.int .u8)]) (Lr:=[(4,.int .u8)]) (S:=(fun n x w=>K_1s K n x.1 x.2.1 x.2.2.1)) (K_93 K) (OrcQ.cons (by kernel_rfl) (K_9w K [(0,2),(5,25)] (by kernel_rfl)) (OrcQ.nil _ _ _)) (by kernel_rfl) (fun _ _=>by kernel_rfl) (fun _ _ _=>by kernel_rfl) n
noncomputable def K_c7 (K:Nat):SQ:=stmtQ [(0,.int .u8),(1,.int .u8),(5,.int .u8)] [(5,.int .u8)] [(4,.int .u8)] [(0,2),(5,25)] (fun x w=>K_1s K K x.1 x.2.1 x.2.2.1)
theorem K_hq(K:Nat)(R:Rg)(h:subRB [(0,2),(5,25)] R=true):(K_c7 K).Ok prog R (.block 0 (.loop (cd (bodyOf f61) [1,1,0,0,0]))):=K_9b (K_l5 K K) (K_1 h)
theorem K_ck:FunFacts prog 61 f61 (bodyOf f61) [(0,.int .u8),(1,.int .u8)] [(0,26)]:=⟨func61,by kernel_rfl,by kernel_rfl,by kernel_rfl,by kernel_rfl,by kernel_rfl⟩
theorem K_m4(K:Nat)(x:TT [(0,.int .u8),(1,.int .u8)])(w:World)(y:TR [.int .u8])(h:K_d K x.1 x.2.1=some y):Calls prog 61 (encA [(0,.int .u8),(1,.int .u8)] x).toArray w (fun e w3=>e= .returned (resV (encR [.int .u8] y))∧w3=w):=
  K_6p (O:=tabL [([1,1,0],K_c7 K),([1,1,0,0,0,1,0,0,1],K_8b K)]) (Lp:=[(0,.int .u8),(1,.int .u8)]) (Rt:=[.int .u8]) (S:=(fun x w=>K_d K x.1 x.2.1)) (K_93 K) K_ck (OrcQ.cons (by kernel_rfl) (K_hq K [(0,26)] (by kernel_rfl)) (OrcQ.cons (by kernel_rfl) (K_9w K [(0,26)] (by kernel_rfl)) (OrcQ.nil _ _ _))) (fun _ _=>by kernel_rfl) x w y h
noncomputable def K_1d (K:Nat):RE:=funR [(0,.int .u8),(1,.int .u8)] [.int .u8] (fun x w=>K_d K x.1 x.2.1)
theorem K_1p(K:Nat):(K_1d K).Ok prog 61:=K_6o K_ck fun x w y h=>K_m4 K x w y h
noncomputable def K_o7 (K:Nat):List (Nat×CE):=[]
theorem K_cq(K:Nat):Env.Ok prog (tab (K_o7 K)):=(Env.nil _)
noncomputable def K_o4 (K:Nat):List (Nat×RE):=[(61,K_1d K)]
theorem K_co(K:Nat):REnv.Ok prog (tab (K_o4 K)):=(REnv.cons (K_1p K) (REnv.nil _))
noncomputable def K_35 (K:Nat) (rec:Int→Option Addr→Int→Int→World→Option ((Int×Unit)×World)) (x0:Int) (a1:Option Addr) (v4:Int) (i5:Int) (w:World):Option ((Int×Unit)×World):=
 if (decide (i5≥0))=true then((K_d K v4 x0).bind fun r_3=>
 (a1).bind fun p_4=>
 (ldS p_4 w.drew).bind fun v_5=>
 (v_5.a).bind fun p_6=>
 if (0:Int)≤i5∧i5<((v_5.len:Nat):Int) then((ldI .u8 (p_6.add ((Int.toNat i5)*1)) w.drew).bind fun v_7=>
 rec x0 a1 (bits .xor .u8 r_3.1 v_7) (IntKind.i64.wrap (i5 - 1)) w.drew) else none) else(some ((v4,()),w))
noncomputable def K_18 (K:Nat) (n:Nat):Int→Option Addr→Int→Int→World→Option ((Int×Unit)×World):=iter (fun _ _ _ _ _=>none) (K_35 K) n
noncomputable def K_46 (K:Nat) (x0:Int) (a1:Option Addr) (w:World):Option ((Int×Unit)×World):=
 (a1).bind fun p_1=>
 (ldS p_1 w).bind fun v_2=>
 bnd (K_18 K K x0 a1 0 (IntKind.i64.wrap (((v_2.len:Nat):Int) - 1)) w) fun y_8 w_9=>
 some ((y_8.1,()),w_9)
theorem K_ig(K:Nat)(n:Nat):StmtNOk prog [(0,.int .u8),(1,.ptr),(4,.int .u8),(5,.int .i64)] [(4,.int .u8)] [(4,6),(9,21)] ((fun n x w=>K_18 K n x.1 x.2.1 x.2.2.1 x.2.2.2.1 w) n) (.block 0 (.loop (cd (bodyOf f81) [1,1,0,1,0,0]))):=
  K_9 (O:=tabL []) (root:=(bodyOf f81)) (π:=[1,1,0,1,0,0]) (Li:=[(0,.int .u8),(1,.ptr),(4,.int .u8),(5,.int .i64)]) (Lo:=[(4,.int .u8)]) (S:=(fun n x w=>K_18 K n x.1 x.2.1 x.2.2.1 x.2.2.2.1 w)) (K_cq K) (K_co K) rfl (Orc.nil _ _ _) (by kernel_rfl) (fun _ _=>by kernel_rfl) (fun _ _ _=>by kernel_rfl) n
noncomputable def K_av (K:Nat):SE:=stmtN [(0,.int .u8),(1,.ptr),(4,.int .u8),(5,.int .i64)] [(4,.int .u8)] [(4,6),(9,21)] (fun x w=>K_18 K K x.1 x.2.1 x.2.2.1 x.2.2.2.1 w)
theorem K_fr(K:Nat)(R:Rg)(h:subRB [(4,6),(9,21)] R=true):(K_av K).Ok prog R (.block 0 (.loop (cd (bodyOf f81) [1,1,0,1,0,0]))):=K_2 (K_ig K K) (K_1 h)
theorem K_ar:FunFacts prog 81 f81 (bodyOf f81) [(0,.int .u8),(1,.ptr)] [(0,22)]:=⟨func81,by kernel_rfl,by kernel_rfl,by kernel_rfl,by kernel_rfl,by kernel_rfl⟩
theorem K_im(K:Nat)(x:TT [(0,.int .u8),(1,.ptr)])(w:World)(y:TR [.int .u8])(w2:World)(h:K_46 K x.1 x.2.1 w=some (y,w2)):Calls prog 81 (encA [(0,.int .u8),(1,.ptr)] x).toArray w (fun e w3=>e= .returned (resV (encR [.int .u8] y))∧w3=w2):=
  K_h (O:=tabL [([1,1,0,1],K_av K)]) (Lp:=[(0,.int .u8),(1,.ptr)]) (Rt:=[.int .u8]) (S:=(fun x w=>K_46 K x.1 x.2.1 w)) (K_cq K) (K_co K) rfl K_ar (Orc.cons (by kernel_rfl) (K_fr K [(0,22)] (by kernel_rfl)) (Orc.nil _ _ _)) (fun _ _=>by kernel_rfl) x w y w2 h
noncomputable def K_d1 (K:Nat):CE:=funE [(0,.int .u8),(1,.ptr)] [.int .u8] (fun x w=>K_46 K x.1 x.2.1 w)
theorem K_nk(K:Nat):(K_d1 K).Ok prog 81:=K_b K_ar fun x w y w2 h=>K_im K x w y w2 h
noncomputable def K_aj (K:Nat):List (Nat×CE):=[(81,K_d1 K)]
theorem K_mh(K:Nat):Env.Ok prog (tab (K_aj K)):=(Env.cons (K_nk K) (Env.nil _))
noncomputable def K_xw (K:Nat):List (Nat×RE):=[]
theorem K_md(K:Nat):REnv.Ok prog (tab (K_xw K)):=(REnv.nil _)
noncomputable def K_7w (K:Nat) (rec:Int→Sl→Sl→Int→Int→World→Option ((Sl×Unit)×World)) (x1:Int) (l5:Sl) (a8:Sl) (a9:Int) (a10:Int) (w:World):Option ((Sl×Unit)×World):=
 if (decide (a10<a9))=true then((a8.a).bind fun p_1=>
 if (0:Int)≤a10∧a10<((a8.len:Nat):Int) then((ldV (p_1.add ((Int.toNat a10)*1)) w).bind fun v_2=>
 dyn (tab (K_aj K)) v_2 [(.int .u8 (IntKind.u8.wrap x1))] w fun v_3 w_4=>
 (asI .u8 v_3).bind fun v_5=>
 bnd (bldS prog 23 1 #[(0,(.int .u8 v_5))] w_4) fun s_6 w_7=>
 bnd (apd prog 23 23 (.slice l5.a l5.len l5.cap) (.slice s_6.a s_6.len s_6.cap) w_7) fun s_8 w_9=>
 rec x1 s_8 a8 a9 (IntKind.i64.wrap (a10+1)) w_9) else none) else(some ((l5,()),w))
noncomputable def K_4f (K:Nat) (n:Nat):Int→Sl→Sl→Int→Int→World→Option ((Sl×Unit)×World):=iter (fun _ _ _ _ _ _=>none) (K_7w K) n
noncomputable def K_b5 (K:Nat) (lines0:Sl) (x1:Int) (w:World):Option ((Sl×Unit)×World):=
 bnd (K_4f K K x1 ⟨none,0,0⟩ lines0 ((lines0.len:Nat):Int) 0 w) fun y_10 w_11=>
 some ((y_10.1,()),w_11)
theorem K_ry(K:Nat)(n:Nat):StmtNOk prog [(1,.int .i64),(5,.sl),(8,.sl),(9,.int .i64),(10,.int .i64)] [(5,.sl)] [(5,6),(7,8),(10,22)] ((fun n x w=>K_4f K n x.1 x.2.1 x.2.2.1 x.2.2.2.1 x.2.2.2.2.1 w) n) (.block 0 (.loop (cd (bodyOf f54) [1,1,0,1,0,0]))):=
  K_9 (O:=tabL []) (root:=(bodyOf f54)) (π:=[1,1,0,1,0,0]) (Li:=[(1,.int .i64),(5,.sl),(8,.sl),(9,.int .i64),(10,.int .i64)]) (Lo:=[(5,.sl)]) (S:=(fun n x w=>K_4f K n x.1 x.2.1 x.2.2.1 x.2.2.2.1 x.2.2.2.2.1 w)) (K_mh K) (K_md K) rfl (Orc.nil _ _ _) (by kernel_rfl) (fun _ _=>by kernel_rfl) (fun _ _ _=>by kernel_rfl) n
noncomputable def K_hw (K:Nat):SE:=stmtN [(1,.int .i64),(5,.sl),(8,.sl),(9,.int .i64),(10,.int .i64)] [(5,.sl)] [(5,6),(7,8),(10,22)] (fun x w=>K_4f K K x.1 x.2.1 x.2.2.1 x.2.2.2.1 x.2.2.2.2.1 w)
theorem K_oz(K:Nat)(R:Rg)(h:subRB [(5,6),(7,8),(10,22)] R=true):(K_hw K).Ok prog R (.block 0 (.loop (cd (bodyOf f54) [1,1,0,1,0,0]))):=K_2 (K_ry K K) (K_1 h)
theorem K_hr:FunFacts prog 54 f54 (bodyOf f54) [(0,.sl),(1,.int .i64)] [(0,23)]:=⟨func54,by kernel_rfl,by kernel_rfl,by kernel_rfl,by kernel_rfl,by kernel_rfl⟩
theorem K_s4(K:Nat)(x:TT [(0,.sl),(1,.int .i64)])(w:World)(y:TR [.sl])(w2:World)(h:K_b5 K x.1 x.2.1 w=some (y,w2)):Calls prog 54 (encA [(0,.sl),(1,.int .i64)] x).toArray w (fun e w3=>e= .returned (resV (encR [.sl] y))∧w3=w2):=
  K_h (O:=tabL [([1,1,0,1],K_hw K)]) (Lp:=[(0,.sl),(1,.int .i64)]) (Rt:=[.sl]) (S:=(fun x w=>K_b5 K x.1 x.2.1 w)) (K_mh K) (K_md K) rfl K_hr (Orc.cons (by kernel_rfl) (K_oz K [(0,23)] (by kernel_rfl)) (Orc.nil _ _ _)) (fun _ _=>by kernel_rfl) x w y w2 h
noncomputable def K_oc (K:Nat):CE:=funE [(0,.sl),(1,.int .i64)] [.sl] (fun x w=>K_b5 K x.1 x.2.1 w)
theorem K_ww(K:Nat):(K_oc K).Ok prog 54:=K_b K_hr fun x w y w2 h=>K_s4 K x w y w2 h
noncomputable def K_tj (K:Nat):List (Nat×RE):=[(61,K_1d K)]
theorem K_gl(K:Nat):REnv.Ok prog (tab (K_tj K)):=(REnv.cons (K_1p K) (REnv.nil _))
noncomputable def K_5e (K:Nat) (rec:Int→Int→Int→Option (Out (Int×Unit) (Int×Unit))) (v3:Int) (a5:Int) (a6:Int):Option (Out (Int×Unit) (Int×Unit)):=
 if (decide (a6<a5))=true then((K_d K v3 3).bind fun r_1=>
 rec r_1.1 a5 (IntKind.i64.wrap (a6+1))) else(some (.norm (v3,())))
noncomputable def K_2f (K:Nat) (n:Nat):Int→Int→Int→Option (Out (Int×Unit) (Int×Unit)):=iter (fun _ _ _=>none) (K_5e K) n
noncomputable def K_3p (K:Nat) (n0:Int):Option (Int×Unit):=
 (K_2f K K 1 (Int.tmod n0 255) 0).bind fun y_2=>
 (match y_2 with
 | .norm z_3n=>(some (z_3n.1,()))
 | .ret z_3r=>(some (z_3r.1,())))
theorem K_o9(K:Nat)(n:Nat):StmtQOk prog [(3,.int .u8),(5,.int .i64),(6,.int .i64)] [(3,.int .u8)] [(2,.int .u8)] [(3,4),(6,11)] ((fun n x w=>K_2f K n x.1 x.2.1 x.2.2.1) n) (.block 0 (.loop (cd (bodyOf f124) [1,1,0,1,0,0]))):=
  K_l1 (O:=tabL []) (root:=(bodyOf f124)) (π:=[1,1,0,1,0,0]) (Li:=[(3,.int .u8),(5,.int .i64),(6,.int .i64)]) (Lo:=[(3,.int .u8)]) (Lr:=[(2,.int .u8)]) (S:=(fun n x w=>K_2f K n x.1 x.2.1 x.2.2.1)) (K_gl K) (OrcQ.nil _ _ _) (by kernel_rfl) (fun _ _=>by kernel_rfl) (fun _ _ _=>by kernel_rfl) n
noncomputable def K_dw (K:Nat):SQ:=stmtQ [(3,.int .u8),(5,.int .i64),(6,.int .i64)] [(3,.int .u8)] [(2,.int .u8)] [(3,4),(6,11)] (fun x w=>K_2f K K x.1 x.2.1 x.2.2.1)
theorem K_jh(K:Nat)(R:Rg)(h:subRB [(3,4),(6,11)] R=true):(K_dw K).Ok prog R (.block 0 (.loop (cd (bodyOf f124) [1,1,0,1,0,0]))):=K_9b (K_o9 K K) (K_1 h)
theorem K_eg:FunFacts prog 124 f124 (bodyOf f124) [(0,.int .i64)] [(0,12)]:=⟨func124,by kernel_rfl,by kernel_rfl,by kernel_rfl,by kernel_rfl,by kernel_rfl⟩
theorem K_oq(K:Nat)(x:TT [(0,.int .i64)])(w:World)(y:TR [.int .u8])(h:K_3p K x.1=some y):Calls prog 124 (encA [(0,.int .i64)] x).toArray w (fun e w3=>e= .returned (resV (encR [.int .u8] y))∧w3=w):=
  K_6p (O:=tabL [([1,1,0,1],K_dw K)]) (Lp:=[(0,.int .i64)]) (Rt:=[.int .u8]) (S:=(fun x w=>K_3p K x.1)) (K_gl K) K_eg (OrcQ.cons (by kernel_rfl) (K_jh K [(0,12)] (by kernel_rfl)) (OrcQ.nil _ _ _)) (fun _ _=>by kernel_rfl) x w y h
noncomputable def K_8y (K:Nat):RE:=funR [(0,.int .i64)] [.int .u8] (fun x w=>K_3p K x.1)
theorem K_cv(K:Nat):(K_8y K).Ok prog 124:=K_6o K_eg fun x w y h=>K_oq K x w y h
noncomputable def K_uh (K:Nat):List (Nat×CE):=[(80,K_3h)]
theorem K_6a(K:Nat):Env.Ok prog (tab (K_uh K)):=(Env.cons (K_5k) (Env.nil _))
noncomputable def K_tv (K:Nat):List (Nat×RE):=[(124,K_8y K),(61,K_1d K)]
theorem K_6f(K:Nat):REnv.Ok prog (tab (K_tv K)):=(REnv.cons (K_cv K) (REnv.cons (K_1p K) (REnv.nil _)))
noncomputable def K_5a (K:Nat) (rec:Sl→Int→Sl→Int→Sl→Int→Int→World→Option ((Unit)×World)) (b0:Sl) (j4:Int) (next5:Sl) (a14:Int) (a21:Sl) (a22:Int) (a23:Int) (w:World):Option ((Unit)×World):=
 if (decide (a23<a22))=true then((a21.a).bind fun p_9=>
 if (0:Int)≤a23∧a23<((a21.len:Nat):Int) then((ldI .u8 (p_9.add ((Int.toNat a23)*1)) w).bind fun v_10=>
 (next5.a).bind fun p_11=>
 if (0:Int)≤(IntKind.i64.wrap (a23+1))∧(IntKind.i64.wrap (a23+1))<((next5.len:Nat):Int) then((ldI .u8 (p_11.add ((Int.toNat (IntKind.i64.wrap (a23+1)))*1)) w.drew).bind fun v_12=>
 (K_3p K j4).bind fun r_13=>
 (K_d K v_10 r_13.1).bind fun r_14=>
 (next5.a).bind fun p_15=>
 if (0:Int)≤(IntKind.i64.wrap (a23+1))∧(IntKind.i64.wrap (a23+1))<((next5.len:Nat):Int) then((stC (p_15.add ((Int.toNat (IntKind.i64.wrap (a23+1)))*1)) (.int .u8 (bits .xor .u8 v_12 r_14.1)) w.drew).bind fun w_16=>
 rec b0 j4 next5 a14 a21 a22 (IntKind.i64.wrap (a23+1)) w_16) else none) else none) else none) else(some ((),w))
noncomputable def K_2k (K:Nat) (n:Nat):Sl→Int→Sl→Int→Sl→Int→Int→World→Option ((Unit)×World):=iter (fun _ _ _ _ _ _ _ _=>none) (K_5a K) n
noncomputable def K_5h (K:Nat) (rec:Sl→Sl→Int→World→Option ((Sl×Unit)×World)) (b0:Sl) (g3:Sl) (a14:Int) (w:World):Option ((Sl×Unit)×World):=
 if (decide (a14<4))=true then(bnd (K_e g3 w) fun r_3 w_4=>
 bnd (bldS prog 23 1 #[(0,(.int .u8 0))] w_4) fun s_5 w_6=>
 bnd (apd prog 23 23 (.slice r_3.1.a r_3.1.len r_3.1.cap) (.slice s_5.a s_5.len s_5.cap) w_6) fun s_7 w_8=>
 bnd (K_2k K K b0 a14 s_7 a14 g3 ((g3.len:Nat):Int) 0 w_8) fun y_17 w_18=>
 rec b0 s_7 (IntKind.i64.wrap (a14+1)) w_18) else(some ((g3,()),w))
noncomputable def K_1h (K:Nat) (n:Nat):Sl→Sl→Int→World→Option ((Sl×Unit)×World):=iter (fun _ _ _ _=>none) (K_5h K) n
noncomputable def K_5f (K:Nat) (rec:Sl→Sl→Sl→Int→Int→Int→Int→Sl→Int→Int→World→Option ((Unit)×World)) (b0:Sl) (g3:Sl) (rest8:Sl) (i9:Int) (c10:Int) (a46:Int) (a47:Int) (a54:Sl) (a55:Int) (a56:Int) (w:World):Option ((Unit)×World):=
 if (decide (a56<a55))=true then((a54.a).bind fun p_27=>
 if (0:Int)≤a56∧a56<((a54.len:Nat):Int) then((ldI .u8 (p_27.add ((Int.toNat a56)*1)) w).bind fun v_28=>
 (rest8.a).bind fun p_29=>
 if (0:Int)≤(IntKind.i64.wrap (i9+a56))∧(IntKind.i64.wrap (i9+a56))<((rest8.len:Nat):Int) then((ldI .u8 (p_29.add ((Int.toNat (IntKind.i64.wrap (i9+a56)))*1)) w.drew).bind fun v_30=>
 (K_d K c10 v_28).bind fun r_31=>
 (rest8.a).bind fun p_32=>
 if (0:Int)≤(IntKind.i64.wrap (i9+a56))∧(IntKind.i64.wrap (i9+a56))<((rest8.len:Nat):Int) then((stC (p_32.add ((Int.toNat (IntKind.i64.wrap (i9+a56)))*1)) (.int .u8 (bits .xor .u8 v_30 r_31.1)) w.drew).bind fun w_33=>
 rec b0 g3 rest8 i9 c10 a46 a47 a54 a55 (IntKind.i64.wrap (a56+1)) w_33) else none) else none) else none) else(some ((),w))
noncomputable def K_2i (K:Nat) (n:Nat):Sl→Sl→Sl→Int→Int→Int→Int→Sl→Int→Int→World→Option ((Unit)×World):=iter (fun _ _ _ _ _ _ _ _ _ _ _=>none) (K_5f K) n
noncomputable def K_5c (K:Nat) (rec:Sl→Sl→Sl→Int→Int→World→Option ((Unit)×World)) (b0:Sl) (g3:Sl) (rest8:Sl) (a46:Int) (a47:Int) (w:World):Option ((Unit)×World):=
 if (decide (a47<a46))=true then((rest8.a).bind fun p_25=>
 if (0:Int)≤a47∧a47<((rest8.len:Nat):Int) then((ldI .u8 (p_25.add ((Int.toNat a47)*1)) w).bind fun v_26=>
 bnd (K_2i K K b0 g3 rest8 a47 v_26 a46 a47 g3 ((g3.len:Nat):Int) 0 w) fun y_34 w_35=>
 rec b0 g3 rest8 a46 (IntKind.i64.wrap (a47+1)) w_35) else none) else(some ((),w))
noncomputable def K_2e (K:Nat) (n:Nat):Sl→Sl→Sl→Int→Int→World→Option ((Unit)×World):=iter (fun _ _ _ _ _ _=>none) (K_5c K) n
noncomputable def K_66 (K:Nat) (b0:Sl) (w:World):Option ((Sl×Unit)×World):=
 bnd (bldS prog 23 1 #[(0,(.int .u8 1))] w) fun s_1 w_2=>
 bnd (K_1h K K b0 s_1 0 w_2) fun y_19 w_20=>
 bnd (K_e b0 w_20) fun r_21 w_22=>
 bnd (apd prog 23 3 (.slice r_21.1.a r_21.1.len r_21.1.cap) (.int .i64 4) w_22) fun s_23 w_24=>
 bnd (K_2e K K b0 y_19.1 s_23 ((b0.len:Nat):Int) 0 w_24) fun y_36 w_37=>
 if (0:Int)≤((b0.len:Nat):Int)∧((b0.len:Nat):Int)≤((s_23.len:Nat):Int) then(bnd (K_e b0 w_37.drew) fun r_38 w_39=>
 bnd (apd prog 23 23 (.slice r_38.1.a r_38.1.len r_38.1.cap) (.slice (sla s_23.a (Int.toNat (((b0.len:Nat):Int))) s_23.cap 1) (s_23.len - (Int.toNat (((b0.len:Nat):Int)))) (s_23.cap - (Int.toNat (((b0.len:Nat):Int))))) w_39) fun s_40 w_41=>
 some ((s_40,()),w_41)) else none
theorem K_om(K:Nat)(n:Nat):StmtNOk prog [(0,.sl),(4,.int .i64),(5,.sl),(14,.int .i64),(21,.sl),(22,.int .i64),(23,.int .i64)] [] [(6,8),(23,40)] ((fun n x w=>K_2k K n x.1 x.2.1 x.2.2.1 x.2.2.2.1 x.2.2.2.2.1 x.2.2.2.2.2.1 x.2.2.2.2.2.2.1 w) n) (.block 2 (.loop (cd (bodyOf f108) [1,1,0,1,0,0,1,1,0,0,1,1,0,1,0,0]))):=
  K_9 (O:=tabL []) (root:=(bodyOf f108)) (π:=[1,1,0,1,0,0,1,1,0,0,1,1,0,1,0,0]) (Li:=[(0,.sl),(4,.int .i64),(5,.sl),(14,.int .i64),(21,.sl),(22,.int .i64),(23,.int .i64)]) (Lo:=[]) (S:=(fun n x w=>K_2k K n x.1 x.2.1 x.2.2.1 x.2.2.2.1 x.2.2.2.2.1 x.2.2.2.2.2.1 x.2.2.2.2.2.2.1 w)) (K_6a K) (K_6f K) rfl (Orc.nil _ _ _) (by kernel_rfl) (fun _ _=>by kernel_rfl) (fun _ _ _=>by kernel_rfl) n
noncomputable def K_9g (K:Nat):SE:=stmtN [(0,.sl),(4,.int .i64),(5,.sl),(14,.int .i64),(21,.sl),(22,.int .i64),(23,.int .i64)] [] [(6,8),(23,40)] (fun x w=>K_2k K K x.1 x.2.1 x.2.2.1 x.2.2.2.1 x.2.2.2.2.1 x.2.2.2.2.2.1 x.2.2.2.2.2.2.1 w)
theorem K_bs(K:Nat)(R:Rg)(h:subRB [(6,8),(23,40)] R=true):(K_9g K).Ok prog R (.block 2 (.loop (cd (bodyOf f108) [1,1,0,1,0,0,1,1,0,0,1,1,0,1,0,0]))):=K_2 (K_om K K) (K_1 h)
theorem K_oe(K:Nat)(n:Nat):StmtNOk prog [(0,.sl),(3,.sl),(14,.int .i64)] [(3,.sl)] [(3,8),(14,42)] ((fun n x w=>K_1h K n x.1 x.2.1 x.2.2.1 w) n) (.block 0 (.loop (cd (bodyOf f108) [1,1,0,1,0,0]))):=
  K_9 (O:=tabL [([1,1,0,1,0,0,1,1,0,0,1,1,0,1],K_9g K)]) (root:=(bodyOf f108)) (π:=[1,1,0,1,0,0]) (Li:=[(0,.sl),(3,.sl),(14,.int .i64)]) (Lo:=[(3,.sl)]) (S:=(fun n x w=>K_1h K n x.1 x.2.1 x.2.2.1 w)) (K_6a K) (K_6f K) rfl (Orc.cons (by kernel_rfl) (K_bs K [(3,8),(14,42)] (by kernel_rfl)) (Orc.nil _ _ _)) (by kernel_rfl) (fun _ _=>by kernel_rfl) (fun _ _ _=>by kernel_rfl) n
noncomputable def K_eh (K:Nat):SE:=stmtN [(0,.sl),(3,.sl),(14,.int .i64)] [(3,.sl)] [(3,8),(14,42)] (fun x w=>K_1h K K x.1 x.2.1 x.2.2.1 w)
theorem K_kf(K:Nat)(R:Rg)(h:subRB [(3,8),(14,42)] R=true):(K_eh K).Ok prog R (.block 0 (.loop (cd (bodyOf f108) [1,1,0,1,0,0]))):=K_2 (K_oe K K) (K_1 h)
theorem K_ns(K:Nat)(n:Nat):StmtNOk prog [(0,.sl),(3,.sl),(8,.sl),(9,.int .i64),(10,.int .u8),(46,.int .i64),(47,.int .i64),(54,.sl),(55,.int .i64),(56,.int .i64)] [] [(11,13),(56,73)] ((fun n x w=>K_2i K n x.1 x.2.1 x.2.2.1 x.2.2.2.1 x.2.2.2.2.1 x.2.2.2.2.2.1 x.2.2.2.2.2.2.1 x.2.2.2.2.2.2.2.1 x.2.2.2.2.2.2.2.2.1 x.2.2.2.2.2.2.2.2.2.1 w) n) (.block 6 (.loop (cd (bodyOf f108) [1,1,1,1,0,1,0,0,1,1,0,0,1,1,1,0,0]))):=
  K_9 (O:=tabL []) (root:=(bodyOf f108)) (π:=[1,1,1,1,0,1,0,0,1,1,0,0,1,1,1,0,0]) (Li:=[(0,.sl),(3,.sl),(8,.sl),(9,.int .i64),(10,.int .u8),(46,.int .i64),(47,.int .i64),(54,.sl),(55,.int .i64),(56,.int .i64)]) (Lo:=[]) (S:=(fun n x w=>K_2i K n x.1 x.2.1 x.2.2.1 x.2.2.2.1 x.2.2.2.2.1 x.2.2.2.2.2.1 x.2.2.2.2.2.2.1 x.2.2.2.2.2.2.2.1 x.2.2.2.2.2.2.2.2.1 x.2.2.2.2.2.2.2.2.2.1 w)) (K_6a K) (K_6f K) rfl (Orc.nil _ _ _) (by kernel_rfl) (fun _ _=>by kernel_rfl) (fun _ _ _=>by kernel_rfl) n
noncomputable def K_95 (K:Nat):SE:=stmtN [(0,.sl),(3,.sl),(8,.sl),(9,.int .i64),(10,.int .u8),(46,.int .i64),(47,.int .i64),(54,.sl),(55,.int .i64),(56,.int .i64)] [] [(11,13),(56,73)] (fun x w=>K_2i K K x.1 x.2.1 x.2.2.1 x.2.2.2.1 x.2.2.2.2.1 x.2.2.2.2.2.1 x.2.2.2.2.2.2.1 x.2.2.2.2.2.2.2.1 x.2.2.2.2.2.2.2.2.1 x.2.2.2.2.2.2.2.2.2.1 w)
theorem K_bg(K:Nat)(R:Rg)(h:subRB [(11,13),(56,73)] R=true):(K_95 K).Ok prog R (.block 6 (.loop (cd (bodyOf f108) [1,1,1,1,0,1,0,0,1,1,0,0,1,1,1,0,0]))):=K_2 (K_ns K K) (K_1 h)
theorem K_o1(K:Nat)(n:Nat):StmtNOk prog [(0,.sl),(3,.sl),(8,.sl),(46,.int .i64),(47,.int .i64)] [] [(9,13),(47,74)] ((fun n x w=>K_2e K n x.1 x.2.1 x.2.2.1 x.2.2.2.1 x.2.2.2.2.1 w) n) (.block 4 (.loop (cd (bodyOf f108) [1,1,1,1,0,1,0,0]))):=
  K_9 (O:=tabL [([1,1,1,1,0,1,0,0,1,1,0,0,1,1,1],K_95 K)]) (root:=(bodyOf f108)) (π:=[1,1,1,1,0,1,0,0]) (Li:=[(0,.sl),(3,.sl),(8,.sl),(46,.int .i64),(47,.int .i64)]) (Lo:=[]) (S:=(fun n x w=>K_2e K n x.1 x.2.1 x.2.2.1 x.2.2.2.1 x.2.2.2.2.1 w)) (K_6a K) (K_6f K) rfl (Orc.cons (by kernel_rfl) (K_bg K [(9,13),(47,74)] (by kernel_rfl)) (Orc.nil _ _ _)) (by kernel_rfl) (fun _ _=>by kernel_rfl) (fun _ _ _=>by kernel_rfl) n
noncomputable def K_e3 (K:Nat):SE:=stmtN [(0,.sl),(3,.sl),(8,.sl),(46,.int .i64),(47,.int .i64)] [] [(9,13),(47,74)] (fun x w=>K_2e K K x.1 x.2.1 x.2.2.1 x.2.2.2.1 x.2.2.2.2.1 w)
theorem K_j2(K:Nat)(R:Rg)(h:subRB [(9,13),(47,74)] R=true):(K_e3 K).Ok prog R (.block 4 (.loop (cd (bodyOf f108) [1,1,1,1,0,1,0,0]))):=K_2 (K_o1 K K) (K_1 h)
theorem K_e4:FunFacts prog 108 f108 (bodyOf f108) [(0,.sl)] [(0,81)]:=⟨func108,by kernel_rfl,by kernel_rfl,by kernel_rfl,by kernel_rfl,by kernel_rfl⟩
theorem K_ol(K:Nat)(x:TT [(0,.sl)])(w:World)(y:TR [.sl])(w2:World)(h:K_66 K x.1 w=some (y,w2)):Calls prog 108 (encA [(0,.sl)] x).toArray w (fun e w3=>e= .returned (resV (encR [.sl] y))∧w3=w2):=
  K_h (O:=tabL [([1,1,0,1],K_eh K),([1,1,0,1,0,0,1,1,0,0,1,1,0,1],K_9g K),([1,1,1,1,0,1],K_e3 K),([1,1,1,1,0,1,0,0,1,1,0,0,1,1,1],K_95 K)]) (Lp:=[(0,.sl)]) (Rt:=[.sl]) (S:=(fun x w=>K_66 K x.1 w)) (K_6a K) (K_6f K) rfl K_e4 (Orc.cons (by kernel_rfl) (K_kf K [(0,81)] (by kernel_rfl)) (Orc.cons (by kernel_rfl) (K_bs K [(0,81)] (by kernel_rfl)) (Orc.cons (by kernel_rfl) (K_j2 K [(0,81)] (by kernel_rfl)) (Orc.cons (by kernel_rfl) (K_bg K [(0,81)] (by kernel_rfl)) (Orc.nil _ _ _))))) (fun _ _=>by kernel_rfl) x w y w2 h
noncomputable def K_hs (K:Nat):CE:=funE [(0,.sl)] [.sl] (fun x w=>K_66 K x.1 w)
theorem K_t0(K:Nat):(K_hs K).Ok prog 108:=K_b K_e4 fun x w y w2 h=>K_ol K x w y w2 h
noncomputable def K_l0 (K:Nat):List (Nat×CE):=[(108,K_hs K)]
theorem K_ij(K:Nat):Env.Ok prog (tab (K_l0 K)):=(Env.cons (K_t0 K) (Env.nil _))
noncomputable def K_l9 (K:Nat):List (Nat×RE):=[]
theorem K_it(K:Nat):REnv.Ok prog (tab (K_l9 K)):=(REnv.nil _)
noncomputable def K_36 (K:Nat) (s0:Array Value) (w:World):Option ((Sl×Unit)×World):=
 bnd (newB s0 102 w) fun p_1 w_2=>
 (ldI .u16 ((p_1.add 0).add 0) w_2).bind fun v_3=>
 (ldI .u16 ((p_1.add 0).add 0) w_2).bind fun v_4=>
 (ldI .i64 ((p_1.add 0).add 1) w_2).bind fun v_5=>
 (ldI .i64 ((p_1.add 0).add 2) w_2).bind fun v_6=>
 (ldI .i64 ((p_1.add 0).add 3) w_2).bind fun v_7=>
 bnd (bldS prog 23 5 #[(0,(.int .u8 (IntKind.u8.wrap (Int.fdiv v_3 (2 ^ 8))))),(1,(.int .u8 (IntKind.u8.wrap v_4))),(2,(.int .u8 (IntKind.u8.wrap v_5))),(3,(.int .u8 (IntKind.u8.wrap v_6))),(4,(.int .u8 (IntKind.u8.wrap v_7)))] w_2) fun s_8 w_9=>
 (ldS (p_1.add 4) w_9).bind fun v_10=>
 bnd (apd prog 23 23 (.slice s_8.a s_8.len s_8.cap) (.slice v_10.a v_10.len v_10.cap) w_9) fun s_11 w_12=>
 if ((Int.tmod ((s_11.len:Nat):Int) 2) == 1)=true then(bnd (bldS prog 23 1 #[(0,(.int .u8 0))] w_12) fun s_13 w_14=>
 bnd (apd prog 23 23 (.slice s_11.a s_11.len s_11.cap) (.slice s_13.a s_13.len s_13.cap) w_14) fun s_15 w_16=>
 bnd (K_66 K s_15 w_16) fun r_17 w_18=>
 some ((r_17.1,()),w_18)) else(bnd (K_66 K s_11 w_12) fun r_19 w_20=>
 some ((r_19.1,()),w_20))
theorem K_9d:FunFacts prog 82 f82 (bodyOf f82) [(0,.agg)] [(0,38)]:=⟨func82,by kernel_rfl,by kernel_rfl,by kernel_rfl,by kernel_rfl,by kernel_rfl⟩
theorem K_gy(K:Nat)(x:TT [(0,.agg)])(w:World)(y:TR [.sl])(w2:World)(h:K_36 K x.1 w=some (y,w2)):Calls prog 82 (encA [(0,.agg)] x).toArray w (fun e w3=>e= .returned (resV (encR [.sl] y))∧w3=w2):=
  K_h (O:=tabL []) (Lp:=[(0,.agg)]) (Rt:=[.sl]) (S:=(fun x w=>K_36 K x.1 w)) (K_ij K) (K_it K) rfl K_9d (Orc.nil _ _ _) (fun _ _=>by kernel_rfl) x w y w2 h
noncomputable def K_b7 (K:Nat):CE:=funE [(0,.agg)] [.sl] (fun x w=>K_36 K x.1 w)
theorem K_k5(K:Nat):(K_b7 K).Ok prog 82:=K_b K_9d fun x w y w2 h=>K_gy K x w y w2 h
end Go.Sh
