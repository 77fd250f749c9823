/- Texts of this claim, put together: Sh0, Sh1, Sh2 -/
import Derived.Test.YteomkfcfhlljkaaDoorAllFwbgdbhh
import Derived.Test.YteomkfcfhlljkaaDoorProg
set_option maxRecDepth 100000
set_option linter.unusedVariables false
namespace Go.Sh
open Go.Fw Go.Proofs.Tryd
def z4:Array Value:=([.bool false]:List Value).toArray
def z23:Array Value:=([.slice none 0 0]:List Value).toArray
def z84:Array Value:=([.int .u16 0] ++ List.replicate 3 (.int .i64 0):List Value).toArray
def z102:Array Value:=([.int .u16 0] ++ List.replicate 3 (.int .i64 0) ++ [.slice none 0 0]:List Value).toArray
def z105:Array Value:=([.int .u16 0] ++ List.replicate 3 (.int .i64 0) ++ [.slice none 0 0] ++ [.int .i64 0]:List Value).toArray
def z138:Array Value:=(List.replicate 3 (.int .i64 0) ++ [.nilFunc]:List Value).toArray
def z150:Array Value:=Array.replicate 8 (.int .u64 0)
def z153:Array Value:=Array.replicate 4 (.int .u8 0)
def z170:Array Value:=Array.replicate 4 (.int .u8 0)
def z174:Array Value:=Array.replicate 64 (.int .u32 0)
def z175:Array Value:=Array.replicate 80 (.int .u64 0)
def z176:Array Value:=Array.replicate 8 (.int .u32 0)
def z180:Array Value:=(List.replicate 3 (.int .i64 0) ++ [.nilFunc] ++ [.int .i64 0] ++ List.replicate 9 (.int .u64 0) ++ List.replicate 128 (.int .u8 0):List Value).toArray
def z188:Array Value:=Array.replicate 256 (.int .u8 0)
def str0:ByteArray:=⟨#[]⟩
def str1:ByteArray:=⟨#[98,100,102,103,104,106,107,108,109,110,112,114,115,116,118,122]⟩
def str2:ByteArray:=⟨#[97,105,111,117]⟩
def str3:ByteArray:=⟨#[32]⟩
def str7:ByteArray:=⟨#[109,97,114,107]⟩
noncomputable def K_19g:List (Nat×RE):=[]
theorem K_q4:REnv.Ok prog (tab (K_19g)):=(REnv.nil _)
noncomputable def K_en (a3:Int) (a4:Bool):Option (Out (Bool×Unit) (Int×Unit)):=
 if a4=true then(some (.norm (true,()))) else(some (.norm ((a3 == 256),())))
noncomputable def K_cq (hash0:Int):Option (Int×Unit):=
 (K_en hash0 (hash0 == 224)).bind fun y_1=>
 (match y_1 with
 | .norm z_2n=>(if z_2n.1=true then(some (64,())) else(if (hash0 == 384)=true then(some (128,())) else(if (hash0 == 512)=true then(some (128,())) else(some (0,())))))
 | .ret z_2r=>(some (z_2r.1,())))
theorem K_10l:StmtQOk prog [(3,.int .i64),(4,.bool)] [(4,.bool)] [(2,.int .i64)] [(4,5),(6,7)] (fun x w=>K_en x.1 x.2.1) (cd (bodyOf f94) [1,0,1,0,0,1]):=
  K_1az (O:=tabL []) (root:=(bodyOf f94)) (π:=[1,0,1,0,0,1]) (K_q4) (OrcQ.nil _ _ _) (by kernel_rfl) (fun _ _=>by kernel_rfl)
noncomputable def K_m4:SQ:=stmtQ [(3,.int .i64),(4,.bool)] [(4,.bool)] [(2,.int .i64)] [(4,5),(6,7)] (fun x w=>K_en x.1 x.2.1)
theorem K_u7(R:Rg)(h:subRB [(4,5),(6,7)] R=true):(K_m4).Ok prog R (cd (bodyOf f94) [1,0,1,0,0,1]):=K_8r (K_10l) (K_0 h)
theorem K_mk:FunFacts prog 94 f94 (bodyOf f94) [(0,.int .i64)] [(0,10)]:=⟨func94,by kernel_rfl,by kernel_rfl,by kernel_rfl,by kernel_rfl,by kernel_rfl⟩
theorem K_101(x:TT [(0,.int .i64)])(w:World)(y:TR [.int .i64])(h:K_cq x.1=some y):Calls prog 94 (encA [(0,.int .i64)] x).toArray w (fun e w3=>e= .returned (resV (encR [.int .i64] y))∧w3=w):=
  K_4j (O:=tabL [([1,0,1,0,0,1],K_m4)]) (Lp:=[(0,.int .i64)]) (Rt:=[.int .i64]) (S:=(fun x w=>K_cq x.1)) (K_q4) K_mk (OrcQ.cons (by kernel_rfl) (K_u7 [(0,10)] (by kernel_rfl)) (OrcQ.nil _ _ _)) (fun _ _=>by kernel_rfl) x w y h
noncomputable def K_si:RE:=funR [(0,.int .i64)] [.int .i64] (fun x w=>K_cq x.1)
theorem K_17b:(K_si).Ok prog 94:=K_4x K_mk fun x w y h=>K_101 x w y h
noncomputable def K_18h (K:Nat):List (Nat×CE):=[]
theorem K_pw(K:Nat):Env.Ok prog (tab (K_18h K)):=(Env.nil _)
noncomputable def K_196 (K:Nat):List (Nat×RE):=[]
theorem K_pr(K:Nat):REnv.Ok prog (tab (K_196 K)):=(REnv.nil _)
noncomputable def K_88 (K:Nat) (rec:Int→Addr→Addr→Int→World→Option ((Unit)×World)) (hash0:Int) (a2:Addr) (h3:Addr) (i4:Int) (w:World):Option ((Unit)×World):=
 if (decide (i4<8))=true then(if (hash0 == 224)=true then(if (0:Int)≤(IntKind.i64.wrap (8+i4))∧(IntKind.i64.wrap (8+i4))<((16:Nat):Int) then((ldI .u64 ((⟨1,0,none⟩:Addr).add ((Int.toNat (IntKind.i64.wrap (8+i4)))*1)) w).bind fun v_5=>
 if (0:Int)≤i4∧i4<((8:Nat):Int) then((stC (h3.add ((Int.toNat i4)*1)) (.int .u64 (Int.tmod v_5 4294967296)) w).bind fun w_6=>
 rec hash0 a2 h3 (IntKind.i64.wrap (i4+1)) w_6) else none) else none) else(if (hash0 == 256)=true then(if (0:Int)≤i4∧i4<((16:Nat):Int) then((ldI .u64 ((⟨1,0,none⟩:Addr).add ((Int.toNat i4)*1)) w).bind fun v_7=>
 if (0:Int)≤i4∧i4<((8:Nat):Int) then((stC (h3.add ((Int.toNat i4)*1)) (.int .u64 (Int.fdiv v_7 (2 ^ 32))) w).bind fun w_8=>
 rec hash0 a2 h3 (IntKind.i64.wrap (i4+1)) w_8) else none) else none) else(if (hash0 == 384)=true then(if (0:Int)≤(IntKind.i64.wrap (8+i4))∧(IntKind.i64.wrap (8+i4))<((16:Nat):Int) then((ldI .u64 ((⟨1,0,none⟩:Addr).add ((Int.toNat (IntKind.i64.wrap (8+i4)))*1)) w).bind fun v_9=>
 if (0:Int)≤i4∧i4<((8:Nat):Int) then((stC (h3.add ((Int.toNat i4)*1)) (.int .u64 v_9) w).bind fun w_10=>
 rec hash0 a2 h3 (IntKind.i64.wrap (i4+1)) w_10) else none) else none) else(if (hash0 == 512)=true then(if (0:Int)≤i4∧i4<((16:Nat):Int) then((ldI .u64 ((⟨1,0,none⟩:Addr).add ((Int.toNat i4)*1)) w).bind fun v_11=>
 if (0:Int)≤i4∧i4<((8:Nat):Int) then((stC (h3.add ((Int.toNat i4)*1)) (.int .u64 v_11) w).bind fun w_12=>
 rec hash0 a2 h3 (IntKind.i64.wrap (i4+1)) w_12) else none) else none) else(rec hash0 a2 h3 (IntKind.i64.wrap (i4+1)) w))))) else(some ((),w))
noncomputable def K_4t (K:Nat) (n:Nat):Int→Addr→Addr→Int→World→Option ((Unit)×World):=iter (fun _ _ _ _ _=>none) (K_88 K) n
noncomputable def K_cz (K:Nat) (hash0:Int) (w:World):Option (((Array Value)×Unit)×World):=
 bnd (newB z150 150 w) fun p_1 w_2=>
 bnd (newB z150 150 w_2) fun h_3 w_4=>
 bnd (K_4t K K hash0 p_1 h_3 0 w_4) fun y_13 w_14=>
 (ldA 8 h_3 w_14).bind fun v_15=>
 if (v_15).size=8 then((stA p_1 v_15 w_14).bind fun w_16=>
 (ldA 8 p_1 w_16).bind fun res_17=>
 some ((res_17,()),w_16)) else none
theorem K_102(K:Nat)(n:Nat):StmtNOk prog [(0,.int .i64),(2,.addr),(3,.addr),(4,.int .i64)] [] [(4,42)] ((fun n x w=>K_4t K n x.1 x.2.1 x.2.2.1 x.2.2.2.1 w) n) (.block 0 (.loop (cd (bodyOf f98) [1,1,0,1,0,0]))):=
  K_4 (O:=tabL []) (root:=(bodyOf f98)) (π:=[1,1,0,1,0,0]) (Li:=[(0,.int .i64),(2,.addr),(3,.addr),(4,.int .i64)]) (Lo:=[]) (S:=(fun n x w=>K_4t K n x.1 x.2.1 x.2.2.1 x.2.2.2.1 w)) (K_pw K) (K_pr K) rfl (Orc.nil _ _ _) (by kernel_rfl) (fun _ _=>by kernel_rfl) (fun _ _ _=>by kernel_rfl) n
noncomputable def K_lz (K:Nat):SE:=stmtN [(0,.int .i64),(2,.addr),(3,.addr),(4,.int .i64)] [] [(4,42)] (fun x w=>K_4t K K x.1 x.2.1 x.2.2.1 x.2.2.2.1 w)
theorem K_ut(K:Nat)(R:Rg)(h:subRB [(4,42)] R=true):(K_lz K).Ok prog R (.block 0 (.loop (cd (bodyOf f98) [1,1,0,1,0,0]))):=K_2 (K_102 K K) (K_0 h)
theorem K_lq:FunFacts prog 98 f98 (bodyOf f98) [(0,.int .i64)] [(0,43)]:=⟨func98,by kernel_rfl,by kernel_rfl,by kernel_rfl,by kernel_rfl,by kernel_rfl⟩
theorem K_10a(K:Nat)(x:TT [(0,.int .i64)])(w:World)(y:TR [.agg])(w2:World)(h:K_cz K x.1 w=some (y,w2)):Calls prog 98 (encA [(0,.int .i64)] x).toArray w (fun e w3=>e= .returned (resV (encR [.agg] y))∧w3=w2):=
  K_b (O:=tabL [([1,1,0,1],K_lz K)]) (Lp:=[(0,.int .i64)]) (Rt:=[.agg]) (S:=(fun x w=>K_cz K x.1 w)) (K_pw K) (K_pr K) rfl K_lq (Orc.cons (by kernel_rfl) (K_ut K [(0,43)] (by kernel_rfl)) (Orc.nil _ _ _)) (fun _ _=>by kernel_rfl) x w y w2 h
noncomputable def K_t6 (K:Nat):CE:=funE [(0,.int .i64)] [.agg] (fun x w=>K_cz K x.1 w)
theorem K_169(K:Nat):(K_t6 K).Ok prog 98:=K_8 K_lq fun x w y w2 h=>K_10a K x w y w2 h
noncomputable def K_1aq (K:Nat):List (Nat×CE):=[]
theorem K_jp(K:Nat):Env.Ok prog (tab (K_1aq K)):=(Env.nil _)
noncomputable def K_19w (K:Nat):List (Nat×RE):=[]
theorem K_jh(K:Nat):REnv.Ok prog (tab (K_19w K)):=(REnv.nil _)
noncomputable def K_a6 (K:Nat) (rec:Sl→Int→Sl→World→Option ((Sl×Unit)×World)) (b0:Sl) (block1:Int) (p5:Sl) (w:World):Option ((Sl×Unit)×World):=
 if block1≠0 then(if ((Int.tmod (IntKind.i64.wrap (((p5.len:Nat):Int)+(IntKind.i64.wrap (Int.tdiv block1 8)))) block1) != 0)=true then(bnd (bldS prog 23 1 #[(0,(.int .u8 0))] w) fun s_7 w_8=>
 bnd (apd prog 23 23 (.slice p5.a p5.len p5.cap) (.slice s_7.a s_7.len s_7.cap) w_8) fun s_9 w_10=>
 rec b0 block1 s_9 w_10) else(some ((p5,()),w))) else none
noncomputable def K_74 (K:Nat) (n:Nat):Sl→Int→Sl→World→Option ((Sl×Unit)×World):=iter (fun _ _ _ _=>none) (K_a6 K) n
noncomputable def K_a8 (K:Nat) (rec:Sl→Int→Int→World→Option ((Sl×Unit)×World)) (p5:Sl) (bits6:Int) (i7:Int) (w:World):Option ((Sl×Unit)×World):=
 if (decide (i7≥0))=true then(if (decide (i7≥8))=true then(bnd (bldS prog 23 1 #[(0,(.int .u8 0))] w) fun s_13 w_14=>
 bnd (apd prog 23 23 (.slice p5.a p5.len p5.cap) (.slice s_13.a s_13.len s_13.cap) w_14) fun s_15 w_16=>
 rec s_15 bits6 (IntKind.i64.wrap (i7 - 1)) w_16) else(if (0:Int)≤(IntKind.u64.wrap (IntKind.i64.wrap (8*i7))) then(bnd (bldS prog 23 1 #[(0,(.int .u8 (IntKind.u8.wrap (Int.fdiv bits6 (2 ^ (min (Int.toNat (IntKind.u64.wrap (IntKind.i64.wrap (8*i7)))) IntKind.u64.bits))))))] w) fun s_17 w_18=>
 bnd (apd prog 23 23 (.slice p5.a p5.len p5.cap) (.slice s_17.a s_17.len s_17.cap) w_18) fun s_19 w_20=>
 rec s_19 bits6 (IntKind.i64.wrap (i7 - 1)) w_20) else none)) else(some ((p5,()),w))
noncomputable def K_73 (K:Nat) (n:Nat):Sl→Int→Int→World→Option ((Sl×Unit)×World):=iter (fun _ _ _ _=>none) (K_a8 K) n
noncomputable def K_ep (K:Nat) (b0:Sl) (block1:Int) (w:World):Option ((Sl×Unit)×World):=
 bnd (apd prog 23 23 (.slice none 0 0) (.slice b0.a b0.len b0.cap) w) fun s_1 w_2=>
 bnd (bldS prog 23 1 #[(0,(.int .u8 128))] w_2) fun s_3 w_4=>
 bnd (apd prog 23 23 (.slice s_1.a s_1.len s_1.cap) (.slice s_3.a s_3.len s_3.cap) w_4) fun s_5 w_6=>
 bnd (K_74 K K b0 block1 s_5 w_6) fun y_11 w_12=>
 bnd (K_73 K K y_11.1 (IntKind.u64.wrap ((IntKind.u64.wrap ((b0.len:Nat):Int))*8)) (IntKind.i64.wrap ((IntKind.i64.wrap (Int.tdiv block1 8)) - 1)) w_12) fun y_21 w_22=>
 some ((y_21.1,()),w_22)
theorem K_12f(K:Nat)(n:Nat):StmtNOk prog [(0,.sl),(1,.int .i64),(5,.sl)] [(5,.sl)] [(5,6),(14,25)] ((fun n x w=>K_74 K n x.1 x.2.1 x.2.2.1 w) n) (.block 0 (.loop (cd (bodyOf f99) [1,1,1,1,0,0,0]))):=
  K_4 (O:=tabL []) (root:=(bodyOf f99)) (π:=[1,1,1,1,0,0,0]) (Li:=[(0,.sl),(1,.int .i64),(5,.sl)]) (Lo:=[(5,.sl)]) (S:=(fun n x w=>K_74 K n x.1 x.2.1 x.2.2.1 w)) (K_jp K) (K_jh K) rfl (Orc.nil _ _ _) (by kernel_rfl) (fun _ _=>by kernel_rfl) (fun _ _ _=>by kernel_rfl) n
noncomputable def K_nu (K:Nat):SE:=stmtN [(0,.sl),(1,.int .i64),(5,.sl)] [(5,.sl)] [(5,6),(14,25)] (fun x w=>K_74 K K x.1 x.2.1 x.2.2.1 w)
theorem K_x5(K:Nat)(R:Rg)(h:subRB [(5,6),(14,25)] R=true):(K_nu K).Ok prog R (.block 0 (.loop (cd (bodyOf f99) [1,1,1,1,0,0,0]))):=K_2 (K_12f K K) (K_0 h)
theorem K_13l(K:Nat)(n:Nat):StmtNOk prog [(5,.sl),(6,.int .u64),(7,.int .i64)] [(5,.sl)] [(5,6),(7,8),(32,50)] ((fun n x w=>K_73 K n x.1 x.2.1 x.2.2.1 w) n) (.block 2 (.loop (cd (bodyOf f99) [1,1,1,1,1,1,0,1,0,0]))):=
  K_4 (O:=tabL []) (root:=(bodyOf f99)) (π:=[1,1,1,1,1,1,0,1,0,0]) (Li:=[(5,.sl),(6,.int .u64),(7,.int .i64)]) (Lo:=[(5,.sl)]) (S:=(fun n x w=>K_73 K n x.1 x.2.1 x.2.2.1 w)) (K_jp K) (K_jh K) rfl (Orc.nil _ _ _) (by kernel_rfl) (fun _ _=>by kernel_rfl) (fun _ _ _=>by kernel_rfl) n
noncomputable def K_nz (K:Nat):SE:=stmtN [(5,.sl),(6,.int .u64),(7,.int .i64)] [(5,.sl)] [(5,6),(7,8),(32,50)] (fun x w=>K_73 K K x.1 x.2.1 x.2.2.1 w)
theorem K_w2(K:Nat)(R:Rg)(h:subRB [(5,6),(7,8),(32,50)] R=true):(K_nz K).Ok prog R (.block 2 (.loop (cd (bodyOf f99) [1,1,1,1,1,1,0,1,0,0]))):=K_2 (K_13l K K) (K_0 h)
theorem K_ox:FunFacts prog 99 f99 (bodyOf f99) [(0,.sl),(1,.int .i64)] [(0,51)]:=⟨func99,by kernel_rfl,by kernel_rfl,by kernel_rfl,by kernel_rfl,by kernel_rfl⟩
theorem K_13c(K:Nat)(x:TT [(0,.sl),(1,.int .i64)])(w:World)(y:TR [.sl])(w2:World)(h:K_ep K x.1 x.2.1 w=some (y,w2)):Calls prog 99 (encA [(0,.sl),(1,.int .i64)] x).toArray w (fun e w3=>e= .returned (resV (encR [.sl] y))∧w3=w2):=
  K_b (O:=tabL [([1,1,1,1,0],K_nu K),([1,1,1,1,1,1,0,1],K_nz K)]) (Lp:=[(0,.sl),(1,.int .i64)]) (Rt:=[.sl]) (S:=(fun x w=>K_ep K x.1 x.2.1 w)) (K_jp K) (K_jh K) rfl K_ox (Orc.cons (by kernel_rfl) (K_x5 K [(0,51)] (by kernel_rfl)) (Orc.cons (by kernel_rfl) (K_w2 K [(0,51)] (by kernel_rfl)) (Orc.nil _ _ _))) (fun _ _=>by kernel_rfl) x w y w2 h
noncomputable def K_va (K:Nat):CE:=funE [(0,.sl),(1,.int .i64)] [.sl] (fun x w=>K_ep K x.1 x.2.1 w)
theorem K_18k(K:Nat):(K_va K).Ok prog 99:=K_8 K_ox fun x w y w2 h=>K_13c K x w y w2 h
noncomputable def K_14c (K:Nat):List (Nat×CE):=[]
theorem K_an(K:Nat):Env.Ok prog (tab (K_14c K)):=(Env.nil _)
noncomputable def K_15l (K:Nat):List (Nat×RE):=[]
theorem K_al(K:Nat):REnv.Ok prog (tab (K_15l K)):=(REnv.nil _)
noncomputable def K_6l (K:Nat) (rec:Sl→Addr→Addr→Addr→Addr→Int→World→Option ((Unit)×World)) (block1:Sl) (h3:Addr) (k5:Addr) (a6:Addr) (w7:Addr) (t8:Int) (w:World):Option ((Unit)×World):=
 if (decide (t8<16))=true then((block1.a).bind fun p_9=>
 if (0:Int)≤(IntKind.i64.wrap (4*t8))∧(IntKind.i64.wrap (4*t8))<((block1.len:Nat):Int) then((block1.a).bind fun p_10=>
 if (0:Int)≤(IntKind.i64.wrap ((IntKind.i64.wrap (4*t8))+1))∧(IntKind.i64.wrap ((IntKind.i64.wrap (4*t8))+1))<((block1.len:Nat):Int) then((block1.a).bind fun p_11=>
 if (0:Int)≤(IntKind.i64.wrap ((IntKind.i64.wrap (4*t8))+2))∧(IntKind.i64.wrap ((IntKind.i64.wrap (4*t8))+2))<((block1.len:Nat):Int) then((block1.a).bind fun p_12=>
 if (0:Int)≤(IntKind.i64.wrap ((IntKind.i64.wrap (4*t8))+3))∧(IntKind.i64.wrap ((IntKind.i64.wrap (4*t8))+3))<((block1.len:Nat):Int) then((ldI .u8 (p_9.add ((Int.toNat (IntKind.i64.wrap (4*t8)))*1)) w.drew).bind fun v_13=>
 (ldI .u8 (p_10.add ((Int.toNat (IntKind.i64.wrap ((IntKind.i64.wrap (4*t8))+1)))*1)) w.drew).bind fun v_14=>
 (ldI .u8 (p_11.add ((Int.toNat (IntKind.i64.wrap ((IntKind.i64.wrap (4*t8))+2)))*1)) w.drew).bind fun v_15=>
 (ldI .u8 (p_12.add ((Int.toNat (IntKind.i64.wrap ((IntKind.i64.wrap (4*t8))+3)))*1)) w.drew).bind fun v_16=>
 if (0:Int)≤t8∧t8<((64:Nat):Int) then((stC (w7.add ((Int.toNat t8)*1)) (.int .u32 (bits .or .u32 (bits .or .u32 (bits .or .u32 (IntKind.u32.wrap ((IntKind.u32.wrap v_13)*2 ^ 24)) (IntKind.u32.wrap ((IntKind.u32.wrap v_14)*2 ^ 16))) (IntKind.u32.wrap ((IntKind.u32.wrap v_15)*2 ^ 8))) (IntKind.u32.wrap v_16))) w.drew).bind fun w_17=>
 rec block1 h3 k5 a6 w7 (IntKind.i64.wrap (t8+1)) w_17) else none) else none) else none) else none) else none) else(some ((),w))
noncomputable def K_2z (K:Nat) (n:Nat):Sl→Addr→Addr→Addr→Addr→Int→World→Option ((Unit)×World):=iter (fun _ _ _ _ _ _ _=>none) (K_6l K) n
noncomputable def K_6f (K:Nat) (rec:Addr→Addr→Addr→Addr→Int→World→Option ((Unit)×World)) (h3:Addr) (k5:Addr) (a6:Addr) (w7:Addr) (t9:Int) (w:World):Option ((Unit)×World):=
 if (decide (t9<64))=true then(if (0:Int)≤(IntKind.i64.wrap (t9 - 15))∧(IntKind.i64.wrap (t9 - 15))<((64:Nat):Int) then((ldI .u32 (w7.add ((Int.toNat (IntKind.i64.wrap (t9 - 15)))*1)) w).bind fun v_20=>
 if (0:Int)≤(IntKind.i64.wrap (t9 - 2))∧(IntKind.i64.wrap (t9 - 2))<((64:Nat):Int) then((ldI .u32 (w7.add ((Int.toNat (IntKind.i64.wrap (t9 - 2)))*1)) w).bind fun v_21=>
 if (0:Int)≤(IntKind.i64.wrap (t9 - 7))∧(IntKind.i64.wrap (t9 - 7))<((64:Nat):Int) then(if (0:Int)≤(IntKind.i64.wrap (t9 - 16))∧(IntKind.i64.wrap (t9 - 16))<((64:Nat):Int) then((ldI .u32 (w7.add ((Int.toNat (IntKind.i64.wrap (t9 - 7)))*1)) w.drew).bind fun v_22=>
 (ldI .u32 (w7.add ((Int.toNat (IntKind.i64.wrap (t9 - 16)))*1)) w.drew).bind fun v_23=>
 if (0:Int)≤t9∧t9<((64:Nat):Int) then((stC (w7.add ((Int.toNat t9)*1)) (.int .u32 (IntKind.u32.wrap ((IntKind.u32.wrap ((IntKind.u32.wrap ((bits .xor .u32 (bits .xor .u32 (bits .or .u32 (Int.fdiv v_21 (2 ^ 17)) (IntKind.u32.wrap (v_21*2 ^ 15))) (bits .or .u32 (Int.fdiv v_21 (2 ^ 19)) (IntKind.u32.wrap (v_21*2 ^ 13)))) (Int.fdiv v_21 (2 ^ 10)))+v_22))+(bits .xor .u32 (bits .xor .u32 (bits .or .u32 (Int.fdiv v_20 (2 ^ 7)) (IntKind.u32.wrap (v_20*2 ^ 25))) (bits .or .u32 (Int.fdiv v_20 (2 ^ 18)) (IntKind.u32.wrap (v_20*2 ^ 14)))) (Int.fdiv v_20 (2 ^ 3)))))+v_23))) w.drew).bind fun w_24=>
 rec h3 k5 a6 w7 (IntKind.i64.wrap (t9+1)) w_24) else none) else none) else none) else none) else none) else(some ((),w))
noncomputable def K_2o (K:Nat) (n:Nat):Addr→Addr→Addr→Addr→Int→World→Option ((Unit)×World):=iter (fun _ _ _ _ _ _=>none) (K_6f K) n
noncomputable def K_6m (K:Nat) (rec:Addr→Addr→Addr→Addr→Int→Int→Int→Int→Int→Int→Int→Int→Int→World→Option ((Int×Int×Int×Int×Int×Int×Int×Int×Unit)×World)) (h3:Addr) (k5:Addr) (a6:Addr) (w7:Addr) (a14:Int) (b15:Int) (c16:Int) (d17:Int) (e18:Int) (f19:Int) (g20:Int) (z21:Int) (t22:Int) (w:World):Option ((Int×Int×Int×Int×Int×Int×Int×Int×Unit)×World):=
 if (decide (t22<64))=true then(if (0:Int)≤t22∧t22<((64:Nat):Int) then(if (0:Int)≤t22∧t22<((64:Nat):Int) then((ldI .u32 (k5.add ((Int.toNat t22)*1)) w.drew).bind fun v_35=>
 (ldI .u32 (w7.add ((Int.toNat t22)*1)) w.drew).bind fun v_36=>
 rec h3 k5 a6 w7 (IntKind.u32.wrap ((IntKind.u32.wrap ((IntKind.u32.wrap ((IntKind.u32.wrap ((IntKind.u32.wrap (z21+(bits .xor .u32 (bits .xor .u32 (bits .or .u32 (Int.fdiv e18 (2 ^ 6)) (IntKind.u32.wrap (e18*2 ^ 26))) (bits .or .u32 (Int.fdiv e18 (2 ^ 11)) (IntKind.u32.wrap (e18*2 ^ 21)))) (bits .or .u32 (Int.fdiv e18 (2 ^ 25)) (IntKind.u32.wrap (e18*2 ^ 7))))))+(bits .or .u32 (bits .and .u32 e18 f19) (bits .and .u32 (bits .xor .u32 IntKind.u32.max e18) g20))))+v_35))+v_36))+(IntKind.u32.wrap ((bits .xor .u32 (bits .xor .u32 (bits .or .u32 (Int.fdiv a14 (2 ^ 2)) (IntKind.u32.wrap (a14*2 ^ 30))) (bits .or .u32 (Int.fdiv a14 (2 ^ 13)) (IntKind.u32.wrap (a14*2 ^ 19)))) (bits .or .u32 (Int.fdiv a14 (2 ^ 22)) (IntKind.u32.wrap (a14*2 ^ 10))))+(bits .or .u32 (bits .or .u32 (bits .and .u32 a14 b15) (bits .and .u32 a14 c16)) (bits .and .u32 b15 c16)))))) a14 b15 c16 (IntKind.u32.wrap (d17+(IntKind.u32.wrap ((IntKind.u32.wrap ((IntKind.u32.wrap ((IntKind.u32.wrap (z21+(bits .xor .u32 (bits .xor .u32 (bits .or .u32 (Int.fdiv e18 (2 ^ 6)) (IntKind.u32.wrap (e18*2 ^ 26))) (bits .or .u32 (Int.fdiv e18 (2 ^ 11)) (IntKind.u32.wrap (e18*2 ^ 21)))) (bits .or .u32 (Int.fdiv e18 (2 ^ 25)) (IntKind.u32.wrap (e18*2 ^ 7))))))+(bits .or .u32 (bits .and .u32 e18 f19) (bits .and .u32 (bits .xor .u32 IntKind.u32.max e18) g20))))+v_35))+v_36)))) e18 f19 g20 (IntKind.i64.wrap (t22+1)) w.drew) else none) else none) else(some ((a14,b15,c16,d17,e18,f19,g20,z21,()),w))
noncomputable def K_2q (K:Nat) (n:Nat):Addr→Addr→Addr→Addr→Int→Int→Int→Int→Int→Int→Int→Int→Int→World→Option ((Int×Int×Int×Int×Int×Int×Int×Int×Unit)×World):=iter (fun _ _ _ _ _ _ _ _ _ _ _ _ _ _=>none) (K_6m K) n
noncomputable def K_9h (K:Nat) (h0:Array Value) (block1:Sl) (k2:Array Value) (w:World):Option (((Array Value)×Unit)×World):=
 bnd (newB h0 176 w) fun p_1 w_2=>
 bnd (newB k2 174 w_2) fun p_3 w_4=>
 bnd (newB z176 176 w_4) fun p_5 w_6=>
 bnd (newB z174 174 w_6) fun w_7 w_8=>
 bnd (K_2z K K block1 p_1 p_3 p_5 w_7 0 w_8) fun y_18 w_19=>
 bnd (K_2o K K p_1 p_3 p_5 w_7 16 w_19) fun y_25 w_26=>
 (ldI .u32 (p_1.add (0*1)) w_26.drew).bind fun v_27=>
 (ldI .u32 (p_1.add (1*1)) w_26.drew).bind fun v_28=>
 (ldI .u32 (p_1.add (2*1)) w_26.drew).bind fun v_29=>
 (ldI .u32 (p_1.add (3*1)) w_26.drew).bind fun v_30=>
 (ldI .u32 (p_1.add (4*1)) w_26.drew.drew).bind fun v_31=>
 (ldI .u32 (p_1.add (5*1)) w_26.drew.drew).bind fun v_32=>
 (ldI .u32 (p_1.add (6*1)) w_26.drew.drew).bind fun v_33=>
 (ldI .u32 (p_1.add (7*1)) w_26.drew.drew).bind fun v_34=>
 bnd (K_2q K K p_1 p_3 p_5 w_7 v_27 v_28 v_29 v_30 v_31 v_32 v_33 v_34 0 w_26.drew.drew) fun y_37 w_38=>
 (ldI .u32 (p_1.add (0*1)) w_38).bind fun v_39=>
 (ldI .u32 (p_1.add (1*1)) w_38).bind fun v_40=>
 (ldI .u32 (p_1.add (2*1)) w_38).bind fun v_41=>
 (ldI .u32 (p_1.add (3*1)) w_38).bind fun v_42=>
 (ldI .u32 (p_1.add (4*1)) w_38).bind fun v_43=>
 (ldI .u32 (p_1.add (5*1)) w_38).bind fun v_44=>
 (ldI .u32 (p_1.add (6*1)) w_38).bind fun v_45=>
 (ldI .u32 (p_1.add (7*1)) w_38).bind fun v_46=>
 (prog.built 176 [(0,(.int .u32 (IntKind.u32.wrap (v_39+y_37.1)))),(1,(.int .u32 (IntKind.u32.wrap (v_40+y_37.2.1)))),(2,(.int .u32 (IntKind.u32.wrap (v_41+y_37.2.2.1)))),(3,(.int .u32 (IntKind.u32.wrap (v_42+y_37.2.2.2.1)))),(4,(.int .u32 (IntKind.u32.wrap (v_43+y_37.2.2.2.2.1)))),(5,(.int .u32 (IntKind.u32.wrap (v_44+y_37.2.2.2.2.2.1)))),(6,(.int .u32 (IntKind.u32.wrap (v_45+y_37.2.2.2.2.2.2.1)))),(7,(.int .u32 (IntKind.u32.wrap (v_46+y_37.2.2.2.2.2.2.2.1))))]).bind fun cs_47=>
 if (cs_47).size=8 then((stA p_5 cs_47 w_38).bind fun w_48=>
 (ldA 8 p_5 w_48).bind fun res_49=>
 some ((res_49,()),w_48)) else none
theorem K_w8(K:Nat)(n:Nat):StmtNOk prog [(1,.sl),(3,.addr),(5,.addr),(6,.addr),(7,.addr),(8,.int .i64)] [] [(8,9),(27,66)] ((fun n x w=>K_2z K n x.1 x.2.1 x.2.2.1 x.2.2.2.1 x.2.2.2.2.1 x.2.2.2.2.2.1 w) n) (.block 0 (.loop (cd (bodyOf f125) [1,1,0,1,0,0]))):=
  K_4 (O:=tabL []) (root:=(bodyOf f125)) (π:=[1,1,0,1,0,0]) (Li:=[(1,.sl),(3,.addr),(5,.addr),(6,.addr),(7,.addr),(8,.int .i64)]) (Lo:=[]) (S:=(fun n x w=>K_2z K n x.1 x.2.1 x.2.2.1 x.2.2.2.1 x.2.2.2.2.1 x.2.2.2.2.2.1 w)) (K_an K) (K_al K) rfl (Orc.nil _ _ _) (by kernel_rfl) (fun _ _=>by kernel_rfl) (fun _ _ _=>by kernel_rfl) n
noncomputable def K_j6 (K:Nat):SE:=stmtN [(1,.sl),(3,.addr),(5,.addr),(6,.addr),(7,.addr),(8,.int .i64)] [] [(8,9),(27,66)] (fun x w=>K_2z K K x.1 x.2.1 x.2.2.1 x.2.2.2.1 x.2.2.2.2.1 x.2.2.2.2.2.1 w)
theorem K_qn(K:Nat)(R:Rg)(h:subRB [(8,9),(27,66)] R=true):(K_j6 K).Ok prog R (.block 0 (.loop (cd (bodyOf f125) [1,1,0,1,0,0]))):=K_2 (K_w8 K K) (K_0 h)
theorem K_wm(K:Nat)(n:Nat):StmtNOk prog [(3,.addr),(5,.addr),(6,.addr),(7,.addr),(9,.int .i64)] [] [(9,14),(66,121)] ((fun n x w=>K_2o K n x.1 x.2.1 x.2.2.1 x.2.2.2.1 x.2.2.2.2.1 w) n) (.block 2 (.loop (cd (bodyOf f125) [1,1,1,0,1,0,0]))):=
  K_4 (O:=tabL []) (root:=(bodyOf f125)) (π:=[1,1,1,0,1,0,0]) (Li:=[(3,.addr),(5,.addr),(6,.addr),(7,.addr),(9,.int .i64)]) (Lo:=[]) (S:=(fun n x w=>K_2o K n x.1 x.2.1 x.2.2.1 x.2.2.2.1 x.2.2.2.2.1 w)) (K_an K) (K_al K) rfl (Orc.nil _ _ _) (by kernel_rfl) (fun _ _=>by kernel_rfl) (fun _ _ _=>by kernel_rfl) n
noncomputable def K_j4 (K:Nat):SE:=stmtN [(3,.addr),(5,.addr),(6,.addr),(7,.addr),(9,.int .i64)] [] [(9,14),(66,121)] (fun x w=>K_2o K K x.1 x.2.1 x.2.2.1 x.2.2.2.1 x.2.2.2.2.1 w)
theorem K_qz(K:Nat)(R:Rg)(h:subRB [(9,14),(66,121)] R=true):(K_j4 K).Ok prog R (.block 2 (.loop (cd (bodyOf f125) [1,1,1,0,1,0,0]))):=K_2 (K_wm K K) (K_0 h)
theorem K_wt(K:Nat)(n:Nat):StmtNOk prog [(3,.addr),(5,.addr),(6,.addr),(7,.addr),(14,.int .u32),(15,.int .u32),(16,.int .u32),(17,.int .u32),(18,.int .u32),(19,.int .u32),(20,.int .u32),(21,.int .u32),(22,.int .i64)] [(14,.int .u32),(15,.int .u32),(16,.int .u32),(17,.int .u32),(18,.int .u32),(19,.int .u32),(20,.int .u32),(21,.int .u32)] [(14,27),(137,220)] ((fun n x w=>K_2q K n x.1 x.2.1 x.2.2.1 x.2.2.2.1 x.2.2.2.2.1 x.2.2.2.2.2.1 x.2.2.2.2.2.2.1 x.2.2.2.2.2.2.2.1 x.2.2.2.2.2.2.2.2.1 x.2.2.2.2.2.2.2.2.2.1 x.2.2.2.2.2.2.2.2.2.2.1 x.2.2.2.2.2.2.2.2.2.2.2.1 x.2.2.2.2.2.2.2.2.2.2.2.2.1 w) n) (.block 4 (.loop (cd (bodyOf f125) [1,1,1,1,1,1,0,1,0,0]))):=
  K_4 (O:=tabL []) (root:=(bodyOf f125)) (π:=[1,1,1,1,1,1,0,1,0,0]) (Li:=[(3,.addr),(5,.addr),(6,.addr),(7,.addr),(14,.int .u32),(15,.int .u32),(16,.int .u32),(17,.int .u32),(18,.int .u32),(19,.int .u32),(20,.int .u32),(21,.int .u32),(22,.int .i64)]) (Lo:=[(14,.int .u32),(15,.int .u32),(16,.int .u32),(17,.int .u32),(18,.int .u32),(19,.int .u32),(20,.int .u32),(21,.int .u32)]) (S:=(fun n x w=>K_2q K n x.1 x.2.1 x.2.2.1 x.2.2.2.1 x.2.2.2.2.1 x.2.2.2.2.2.1 x.2.2.2.2.2.2.1 x.2.2.2.2.2.2.2.1 x.2.2.2.2.2.2.2.2.1 x.2.2.2.2.2.2.2.2.2.1 x.2.2.2.2.2.2.2.2.2.2.1 x.2.2.2.2.2.2.2.2.2.2.2.1 x.2.2.2.2.2.2.2.2.2.2.2.2.1 w)) (K_an K) (K_al K) rfl (Orc.nil _ _ _) (by kernel_rfl) (fun _ _=>by kernel_rfl) (fun _ _ _=>by kernel_rfl) n
noncomputable def K_ip (K:Nat):SE:=stmtN [(3,.addr),(5,.addr),(6,.addr),(7,.addr),(14,.int .u32),(15,.int .u32),(16,.int .u32),(17,.int .u32),(18,.int .u32),(19,.int .u32),(20,.int .u32),(21,.int .u32),(22,.int .i64)] [(14,.int .u32),(15,.int .u32),(16,.int .u32),(17,.int .u32),(18,.int .u32),(19,.int .u32),(20,.int .u32),(21,.int .u32)] [(14,27),(137,220)] (fun x w=>K_2q K K x.1 x.2.1 x.2.2.1 x.2.2.2.1 x.2.2.2.2.1 x.2.2.2.2.2.1 x.2.2.2.2.2.2.1 x.2.2.2.2.2.2.2.1 x.2.2.2.2.2.2.2.2.1 x.2.2.2.2.2.2.2.2.2.1 x.2.2.2.2.2.2.2.2.2.2.1 x.2.2.2.2.2.2.2.2.2.2.2.1 x.2.2.2.2.2.2.2.2.2.2.2.2.1 w)
theorem K_qy(K:Nat)(R:Rg)(h:subRB [(14,27),(137,220)] R=true):(K_ip K).Ok prog R (.block 4 (.loop (cd (bodyOf f125) [1,1,1,1,1,1,0,1,0,0]))):=K_2 (K_wt K K) (K_0 h)
theorem K_it:FunFacts prog 125 f125 (bodyOf f125) [(0,.agg),(1,.sl),(2,.agg)] [(0,253)]:=⟨func125,by kernel_rfl,by kernel_rfl,by kernel_rfl,by kernel_rfl,by kernel_rfl⟩
theorem K_wf(K:Nat)(x:TT [(0,.agg),(1,.sl),(2,.agg)])(w:World)(y:TR [.agg])(w2:World)(h:K_9h K x.1 x.2.1 x.2.2.1 w=some (y,w2)):Calls prog 125 (encA [(0,.agg),(1,.sl),(2,.agg)] x).toArray w (fun e w3=>e= .returned (resV (encR [.agg] y))∧w3=w2):=
  K_b (O:=tabL [([1,1,0,1],K_j6 K),([1,1,1,0,1],K_j4 K),([1,1,1,1,1,1,0,1],K_ip K)]) (Lp:=[(0,.agg),(1,.sl),(2,.agg)]) (Rt:=[.agg]) (S:=(fun x w=>K_9h K x.1 x.2.1 x.2.2.1 w)) (K_an K) (K_al K) rfl K_it (Orc.cons (by kernel_rfl) (K_qn K [(0,253)] (by kernel_rfl)) (Orc.cons (by kernel_rfl) (K_qz K [(0,253)] (by kernel_rfl)) (Orc.cons (by kernel_rfl) (K_qy K [(0,253)] (by kernel_rfl)) (Orc.nil _ _ _)))) (fun _ _=>by kernel_rfl) x w y w2 h
noncomputable def K_ol (K:Nat):CE:=funE [(0,.agg),(1,.sl),(2,.agg)] [.agg] (fun x w=>K_9h K x.1 x.2.1 x.2.2.1 w)
theorem K_13r(K:Nat):(K_ol K).Ok prog 125:=K_8 K_it fun x w y w2 h=>K_wf K x w y w2 h
noncomputable def K_174 (K:Nat):List (Nat×CE):=[(125,K_ol K)]
theorem K_8x(K:Nat):Env.Ok prog (tab (K_174 K)):=(Env.cons (K_13r K) (Env.nil _))
noncomputable def K_16j (K:Nat):List (Nat×RE):=[]
theorem K_96(K:Nat):REnv.Ok prog (tab (K_16j K)):=(REnv.nil _)
noncomputable def K_7m (K:Nat) (rec:Sl→Addr→Addr→Addr→Int→World→Option ((Unit)×World)) (p1:Sl) (h2:Addr) (a4:Addr) (k5:Addr) (t6:Int) (w:World):Option ((Unit)×World):=
 if (decide (t6<64))=true then(if (0:Int)≤t6∧t6<((80:Nat):Int) then((ldI .u64 ((⟨2,0,none⟩:Addr).add ((Int.toNat t6)*1)) w).bind fun v_7=>
 if (0:Int)≤t6∧t6<((64:Nat):Int) then((stC (k5.add ((Int.toNat t6)*1)) (.int .u32 (IntKind.u32.wrap (Int.fdiv v_7 (2 ^ 32)))) w).bind fun w_8=>
 rec p1 h2 a4 k5 (IntKind.i64.wrap (t6+1)) w_8) else none) else none) else(some ((),w))
noncomputable def K_3t (K:Nat) (n:Nat):Sl→Addr→Addr→Addr→Int→World→Option ((Unit)×World):=iter (fun _ _ _ _ _ _=>none) (K_7m K) n
noncomputable def K_7b (K:Nat) (rec:Sl→Addr→Addr→Addr→Addr→Int→World→Option ((Unit)×World)) (p1:Sl) (h2:Addr) (a4:Addr) (k5:Addr) (v7:Addr) (i8:Int) (w:World):Option ((Unit)×World):=
 if (decide (i8<8))=true then(if (0:Int)≤i8∧i8<((8:Nat):Int) then((ldI .u64 (h2.add ((Int.toNat i8)*1)) w).bind fun v_13=>
 if (0:Int)≤i8∧i8<((8:Nat):Int) then((stC (v7.add ((Int.toNat i8)*1)) (.int .u32 (IntKind.u32.wrap v_13)) w).bind fun w_14=>
 rec p1 h2 a4 k5 v7 (IntKind.i64.wrap (i8+1)) w_14) else none) else none) else(some ((),w))
noncomputable def K_3y (K:Nat) (n:Nat):Sl→Addr→Addr→Addr→Addr→Int→World→Option ((Unit)×World):=iter (fun _ _ _ _ _ _ _=>none) (K_7b K) n
noncomputable def K_7s (K:Nat) (rec:Sl→Addr→Addr→Addr→Addr→Int→World→Option ((Unit)×World)) (p1:Sl) (h2:Addr) (a4:Addr) (k5:Addr) (v7:Addr) (i9:Int) (w:World):Option ((Unit)×World):=
 if (decide (i9<((p1.len:Nat):Int)))=true then(if (0:Int)≤(IntKind.i64.wrap (i9+64))∧(IntKind.i64.wrap (i9+64))≤((p1.cap:Nat):Int) then(if (0:Int)≤i9∧i9≤(((Int.toNat ((IntKind.i64.wrap (i9+64)))):Nat):Int) then((ldA 8 v7 w.drew).bind fun v_17=>
 (ldA 64 k5 w.drew).bind fun v_18=>
 bnd (K_9h K v_17 ⟨(sla p1.a (Int.toNat (i9)) p1.cap 1),((Int.toNat ((IntKind.i64.wrap (i9+64)))) - (Int.toNat (i9))),(p1.cap - (Int.toNat (i9)))⟩ v_18 w.drew) fun r_19 w_20=>
 if (r_19.1).size=8 then((stA v7 r_19.1 w_20).bind fun w_21=>
 rec p1 h2 a4 k5 v7 (IntKind.i64.wrap (i9+64)) w_21) else none) else none) else none) else(some ((),w))
noncomputable def K_3n (K:Nat) (n:Nat):Sl→Addr→Addr→Addr→Addr→Int→World→Option ((Unit)×World):=iter (fun _ _ _ _ _ _ _=>none) (K_7s K) n
noncomputable def K_7a (K:Nat) (rec:Addr→Addr→Addr→Int→World→Option ((Unit)×World)) (h2:Addr) (a4:Addr) (v7:Addr) (i10:Int) (w:World):Option ((Unit)×World):=
 if (decide (i10<8))=true then(if (0:Int)≤i10∧i10<((8:Nat):Int) then((ldI .u32 (v7.add ((Int.toNat i10)*1)) w).bind fun v_24=>
 if (0:Int)≤i10∧i10<((8:Nat):Int) then((stC (h2.add ((Int.toNat i10)*1)) (.int .u64 (IntKind.u64.wrap v_24)) w).bind fun w_25=>
 rec h2 a4 v7 (IntKind.i64.wrap (i10+1)) w_25) else none) else none) else(some ((),w))
noncomputable def K_3w (K:Nat) (n:Nat):Addr→Addr→Addr→Int→World→Option ((Unit)×World):=iter (fun _ _ _ _ _=>none) (K_7a K) n
noncomputable def K_bg (K:Nat) (h0:Array Value) (p1:Sl) (w:World):Option (((Array Value)×Unit)×World):=
 bnd (newB h0 150 w) fun p_1 w_2=>
 bnd (newB z150 150 w_2) fun p_3 w_4=>
 bnd (newB z174 174 w_4) fun k_5 w_6=>
 bnd (K_3t K K p1 p_1 p_3 k_5 0 w_6) fun y_9 w_10=>
 bnd (newB z176 176 w_10) fun v_11 w_12=>
 bnd (K_3y K K p1 p_1 p_3 k_5 v_11 0 w_12) fun y_15 w_16=>
 bnd (K_3n K K p1 p_1 p_3 k_5 v_11 0 w_16) fun y_22 w_23=>
 bnd (K_3w K K p_1 p_3 v_11 0 w_23) fun y_26 w_27=>
 (ldA 8 p_1 w_27).bind fun v_28=>
 if (v_28).size=8 then((stA p_3 v_28 w_27).bind fun w_29=>
 (ldA 8 p_3 w_29).bind fun res_30=>
 some ((res_30,()),w_29)) else none
theorem K_xv(K:Nat)(n:Nat):StmtNOk prog [(1,.sl),(2,.addr),(4,.addr),(5,.addr),(6,.int .i64)] [] [(6,7),(11,22)] ((fun n x w=>K_3t K n x.1 x.2.1 x.2.2.1 x.2.2.2.1 x.2.2.2.2.1 w) n) (.block 0 (.loop (cd (bodyOf f100) [1,1,0,1,0,0]))):=
  K_4 (O:=tabL []) (root:=(bodyOf f100)) (π:=[1,1,0,1,0,0]) (Li:=[(1,.sl),(2,.addr),(4,.addr),(5,.addr),(6,.int .i64)]) (Lo:=[]) (S:=(fun n x w=>K_3t K n x.1 x.2.1 x.2.2.1 x.2.2.2.1 x.2.2.2.2.1 w)) (K_8x K) (K_96 K) rfl (Orc.nil _ _ _) (by kernel_rfl) (fun _ _=>by kernel_rfl) (fun _ _ _=>by kernel_rfl) n
noncomputable def K_ki (K:Nat):SE:=stmtN [(1,.sl),(2,.addr),(4,.addr),(5,.addr),(6,.int .i64)] [] [(6,7),(11,22)] (fun x w=>K_3t K K x.1 x.2.1 x.2.2.1 x.2.2.2.1 x.2.2.2.2.1 w)
theorem K_su(K:Nat)(R:Rg)(h:subRB [(6,7),(11,22)] R=true):(K_ki K).Ok prog R (.block 0 (.loop (cd (bodyOf f100) [1,1,0,1,0,0]))):=K_2 (K_xv K K) (K_0 h)
theorem K_yn(K:Nat)(n:Nat):StmtNOk prog [(1,.sl),(2,.addr),(4,.addr),(5,.addr),(7,.addr),(8,.int .i64)] [] [(8,9),(22,32)] ((fun n x w=>K_3y K n x.1 x.2.1 x.2.2.1 x.2.2.2.1 x.2.2.2.2.1 x.2.2.2.2.2.1 w) n) (.block 2 (.loop (cd (bodyOf f100) [1,1,1,1,0,1,0,0]))):=
  K_4 (O:=tabL []) (root:=(bodyOf f100)) (π:=[1,1,1,1,0,1,0,0]) (Li:=[(1,.sl),(2,.addr),(4,.addr),(5,.addr),(7,.addr),(8,.int .i64)]) (Lo:=[]) (S:=(fun n x w=>K_3y K n x.1 x.2.1 x.2.2.1 x.2.2.2.1 x.2.2.2.2.1 x.2.2.2.2.2.1 w)) (K_8x K) (K_96 K) rfl (Orc.nil _ _ _) (by kernel_rfl) (fun _ _=>by kernel_rfl) (fun _ _ _=>by kernel_rfl) n
noncomputable def K_ka (K:Nat):SE:=stmtN [(1,.sl),(2,.addr),(4,.addr),(5,.addr),(7,.addr),(8,.int .i64)] [] [(8,9),(22,32)] (fun x w=>K_3y K K x.1 x.2.1 x.2.2.1 x.2.2.2.1 x.2.2.2.2.1 x.2.2.2.2.2.1 w)
theorem K_rz(K:Nat)(R:Rg)(h:subRB [(8,9),(22,32)] R=true):(K_ka K).Ok prog R (.block 2 (.loop (cd (bodyOf f100) [1,1,1,1,0,1,0,0]))):=K_2 (K_yn K K) (K_0 h)
theorem K_yc(K:Nat)(n:Nat):StmtNOk prog [(1,.sl),(2,.addr),(4,.addr),(5,.addr),(7,.addr),(9,.int .i64)] [] [(9,10),(32,46)] ((fun n x w=>K_3n K n x.1 x.2.1 x.2.2.1 x.2.2.2.1 x.2.2.2.2.1 x.2.2.2.2.2.1 w) n) (.block 4 (.loop (cd (bodyOf f100) [1,1,1,1,1,0,1,0,0]))):=
  K_4 (O:=tabL []) (root:=(bodyOf f100)) (π:=[1,1,1,1,1,0,1,0,0]) (Li:=[(1,.sl),(2,.addr),(4,.addr),(5,.addr),(7,.addr),(9,.int .i64)]) (Lo:=[]) (S:=(fun n x w=>K_3n K n x.1 x.2.1 x.2.2.1 x.2.2.2.1 x.2.2.2.2.1 x.2.2.2.2.2.1 w)) (K_8x K) (K_96 K) rfl (Orc.nil _ _ _) (by kernel_rfl) (fun _ _=>by kernel_rfl) (fun _ _ _=>by kernel_rfl) n
noncomputable def K_ky (K:Nat):SE:=stmtN [(1,.sl),(2,.addr),(4,.addr),(5,.addr),(7,.addr),(9,.int .i64)] [] [(9,10),(32,46)] (fun x w=>K_3n K K x.1 x.2.1 x.2.2.1 x.2.2.2.1 x.2.2.2.2.1 x.2.2.2.2.2.1 w)
theorem K_sw(K:Nat)(R:Rg)(h:subRB [(9,10),(32,46)] R=true):(K_ky K).Ok prog R (.block 4 (.loop (cd (bodyOf f100) [1,1,1,1,1,0,1,0,0]))):=K_2 (K_yc K K) (K_0 h)
theorem K_xm(K:Nat)(n:Nat):StmtNOk prog [(2,.addr),(4,.addr),(7,.addr),(10,.int .i64)] [] [(10,11),(46,56)] ((fun n x w=>K_3w K n x.1 x.2.1 x.2.2.1 x.2.2.2.1 w) n) (.block 6 (.loop (cd (bodyOf f100) [1,1,1,1,1,1,0,1,0,0]))):=
  K_4 (O:=tabL []) (root:=(bodyOf f100)) (π:=[1,1,1,1,1,1,0,1,0,0]) (Li:=[(2,.addr),(4,.addr),(7,.addr),(10,.int .i64)]) (Lo:=[]) (S:=(fun n x w=>K_3w K n x.1 x.2.1 x.2.2.1 x.2.2.2.1 w)) (K_8x K) (K_96 K) rfl (Orc.nil _ _ _) (by kernel_rfl) (fun _ _=>by kernel_rfl) (fun _ _ _=>by kernel_rfl) n
noncomputable def K_kx (K:Nat):SE:=stmtN [(2,.addr),(4,.addr),(7,.addr),(10,.int .i64)] [] [(10,11),(46,56)] (fun x w=>K_3w K K x.1 x.2.1 x.2.2.1 x.2.2.2.1 w)
theorem K_ri(K:Nat)(R:Rg)(h:subRB [(10,11),(46,56)] R=true):(K_kx K).Ok prog R (.block 6 (.loop (cd (bodyOf f100) [1,1,1,1,1,1,0,1,0,0]))):=K_2 (K_xm K K) (K_0 h)
theorem K_kv:FunFacts prog 100 f100 (bodyOf f100) [(0,.agg),(1,.sl)] [(0,57)]:=⟨func100,by kernel_rfl,by kernel_rfl,by kernel_rfl,by kernel_rfl,by kernel_rfl⟩
theorem K_xo(K:Nat)(x:TT [(0,.agg),(1,.sl)])(w:World)(y:TR [.agg])(w2:World)(h:K_bg K x.1 x.2.1 w=some (y,w2)):Calls prog 100 (encA [(0,.agg),(1,.sl)] x).toArray w (fun e w3=>e= .returned (resV (encR [.agg] y))∧w3=w2):=
  K_b (O:=tabL [([1,1,0,1],K_ki K),([1,1,1,1,0,1],K_ka K),([1,1,1,1,1,0,1],K_ky K),([1,1,1,1,1,1,0,1],K_kx K)]) (Lp:=[(0,.agg),(1,.sl)]) (Rt:=[.agg]) (S:=(fun x w=>K_bg K x.1 x.2.1 w)) (K_8x K) (K_96 K) rfl K_kv (Orc.cons (by kernel_rfl) (K_su K [(0,57)] (by kernel_rfl)) (Orc.cons (by kernel_rfl) (K_rz K [(0,57)] (by kernel_rfl)) (Orc.cons (by kernel_rfl) (K_sw K [(0,57)] (by kernel_rfl)) (Orc.cons (by kernel_rfl) (K_ri K [(0,57)] (by kernel_rfl)) (Orc.nil _ _ _))))) (fun _ _=>by kernel_rfl) x w y w2 h
noncomputable def K_pk (K:Nat):CE:=funE [(0,.agg),(1,.sl)] [.agg] (fun x w=>K_bg K x.1 x.2.1 w)
theorem K_15k(K:Nat):(K_pk K).Ok prog 100:=K_8 K_kv fun x w y w2 h=>K_xo K x w y w2 h
end Go.Sh

namespace Go.Sh
open Go.Fw Go.Proofs.Tryd
noncomputable def K_15j (K:Nat):List (Nat×CE):=[]
theorem K_78(K:Nat):Env.Ok prog (tab (K_15j K)):=(Env.nil _)
noncomputable def K_13z (K:Nat):List (Nat×RE):=[]
theorem K_7e(K:Nat):REnv.Ok prog (tab (K_13z K)):=(REnv.nil _)
noncomputable def K_69 (K:Nat) (rec:Sl→Addr→Addr→Addr→Int→Int→World→Option ((Unit)×World)) (block1:Sl) (h2:Addr) (a4:Addr) (w5:Addr) (t6:Int) (i7:Int) (w:World):Option ((Unit)×World):=
 if (decide (i7<8))=true then(if (0:Int)≤t6∧t6<((80:Nat):Int) then((block1.a).bind fun p_7=>
 if (0:Int)≤(IntKind.i64.wrap ((IntKind.i64.wrap (8*t6))+i7))∧(IntKind.i64.wrap ((IntKind.i64.wrap (8*t6))+i7))<((block1.len:Nat):Int) then((ldI .u64 (w5.add ((Int.toNat t6)*1)) w.drew).bind fun v_8=>
 (ldI .u8 (p_7.add ((Int.toNat (IntKind.i64.wrap ((IntKind.i64.wrap (8*t6))+i7)))*1)) w.drew).bind fun v_9=>
 if (0:Int)≤t6∧t6<((80:Nat):Int) then((stC (w5.add ((Int.toNat t6)*1)) (.int .u64 (bits .or .u64 (IntKind.u64.wrap (v_8*2 ^ 8)) (IntKind.u64.wrap v_9))) w.drew).bind fun w_10=>
 rec block1 h2 a4 w5 t6 (IntKind.i64.wrap (i7+1)) w_10) else none) else none) else none) else(some ((),w))
noncomputable def K_30 (K:Nat) (n:Nat):Sl→Addr→Addr→Addr→Int→Int→World→Option ((Unit)×World):=iter (fun _ _ _ _ _ _ _=>none) (K_69 K) n
noncomputable def K_6b (K:Nat) (rec:Sl→Addr→Addr→Addr→Int→World→Option ((Unit)×World)) (block1:Sl) (h2:Addr) (a4:Addr) (w5:Addr) (t6:Int) (w:World):Option ((Unit)×World):=
 if (decide (t6<16))=true then(bnd (K_30 K K block1 h2 a4 w5 t6 0 w) fun y_11 w_12=>
 rec block1 h2 a4 w5 (IntKind.i64.wrap (t6+1)) w_12) else(some ((),w))
noncomputable def K_2x (K:Nat) (n:Nat):Sl→Addr→Addr→Addr→Int→World→Option ((Unit)×World):=iter (fun _ _ _ _ _ _=>none) (K_6b K) n
noncomputable def K_6d (K:Nat) (rec:Addr→Addr→Addr→Int→World→Option ((Unit)×World)) (h2:Addr) (a4:Addr) (w5:Addr) (t8:Int) (w:World):Option ((Unit)×World):=
 if (decide (t8<80))=true then(if (0:Int)≤(IntKind.i64.wrap (t8 - 15))∧(IntKind.i64.wrap (t8 - 15))<((80:Nat):Int) then((ldI .u64 (w5.add ((Int.toNat (IntKind.i64.wrap (t8 - 15)))*1)) w).bind fun v_15=>
 if (0:Int)≤(IntKind.i64.wrap (t8 - 2))∧(IntKind.i64.wrap (t8 - 2))<((80:Nat):Int) then((ldI .u64 (w5.add ((Int.toNat (IntKind.i64.wrap (t8 - 2)))*1)) w).bind fun v_16=>
 if (0:Int)≤(IntKind.i64.wrap (t8 - 7))∧(IntKind.i64.wrap (t8 - 7))<((80:Nat):Int) then(if (0:Int)≤(IntKind.i64.wrap (t8 - 16))∧(IntKind.i64.wrap (t8 - 16))<((80:Nat):Int) then((ldI .u64 (w5.add ((Int.toNat (IntKind.i64.wrap (t8 - 7)))*1)) w.drew).bind fun v_17=>
 (ldI .u64 (w5.add ((Int.toNat (IntKind.i64.wrap (t8 - 16)))*1)) w.drew).bind fun v_18=>
 if (0:Int)≤t8∧t8<((80:Nat):Int) then((stC (w5.add ((Int.toNat t8)*1)) (.int .u64 (IntKind.u64.wrap ((IntKind.u64.wrap ((IntKind.u64.wrap ((bits .xor .u64 (bits .xor .u64 (bits .or .u64 (Int.fdiv v_16 (2 ^ 19)) (IntKind.u64.wrap (v_16*2 ^ 45))) (bits .or .u64 (Int.fdiv v_16 (2 ^ 61)) (IntKind.u64.wrap (v_16*2 ^ 3)))) (Int.fdiv v_16 (2 ^ 6)))+v_17))+(bits .xor .u64 (bits .xor .u64 (bits .or .u64 (Int.fdiv v_15 (2 ^ 1)) (IntKind.u64.wrap (v_15*2 ^ 63))) (bits .or .u64 (Int.fdiv v_15 (2 ^ 8)) (IntKind.u64.wrap (v_15*2 ^ 56)))) (Int.fdiv v_15 (2 ^ 7)))))+v_18))) w.drew).bind fun w_19=>
 rec h2 a4 w5 (IntKind.i64.wrap (t8+1)) w_19) else none) else none) else none) else none) else none) else(some ((),w))
noncomputable def K_2p (K:Nat) (n:Nat):Addr→Addr→Addr→Int→World→Option ((Unit)×World):=iter (fun _ _ _ _ _=>none) (K_6d K) n
noncomputable def K_6c (K:Nat) (rec:Addr→Addr→Addr→Int→Int→Int→Int→Int→Int→Int→Int→Int→World→Option ((Int×Int×Int×Int×Int×Int×Int×Int×Unit)×World)) (h2:Addr) (a4:Addr) (w5:Addr) (a13:Int) (b14:Int) (c15:Int) (d16:Int) (e17:Int) (f18:Int) (g19:Int) (z20:Int) (t21:Int) (w:World):Option ((Int×Int×Int×Int×Int×Int×Int×Int×Unit)×World):=
 if (decide (t21<80))=true then(if (0:Int)≤t21∧t21<((80:Nat):Int) then(if (0:Int)≤t21∧t21<((80:Nat):Int) then((ldI .u64 ((⟨2,0,none⟩:Addr).add ((Int.toNat t21)*1)) w.drew).bind fun v_30=>
 (ldI .u64 (w5.add ((Int.toNat t21)*1)) w.drew).bind fun v_31=>
 rec h2 a4 w5 (IntKind.u64.wrap ((IntKind.u64.wrap ((IntKind.u64.wrap ((IntKind.u64.wrap ((IntKind.u64.wrap (z20+(bits .xor .u64 (bits .xor .u64 (bits .or .u64 (Int.fdiv e17 (2 ^ 14)) (IntKind.u64.wrap (e17*2 ^ 50))) (bits .or .u64 (Int.fdiv e17 (2 ^ 18)) (IntKind.u64.wrap (e17*2 ^ 46)))) (bits .or .u64 (Int.fdiv e17 (2 ^ 41)) (IntKind.u64.wrap (e17*2 ^ 23))))))+(bits .or .u64 (bits .and .u64 e17 f18) (bits .and .u64 (bits .xor .u64 IntKind.u64.max e17) g19))))+v_30))+v_31))+(IntKind.u64.wrap ((bits .xor .u64 (bits .xor .u64 (bits .or .u64 (Int.fdiv a13 (2 ^ 28)) (IntKind.u64.wrap (a13*2 ^ 36))) (bits .or .u64 (Int.fdiv a13 (2 ^ 34)) (IntKind.u64.wrap (a13*2 ^ 30)))) (bits .or .u64 (Int.fdiv a13 (2 ^ 39)) (IntKind.u64.wrap (a13*2 ^ 25))))+(bits .or .u64 (bits .or .u64 (bits .and .u64 a13 b14) (bits .and .u64 a13 c15)) (bits .and .u64 b14 c15)))))) a13 b14 c15 (IntKind.u64.wrap (d16+(IntKind.u64.wrap ((IntKind.u64.wrap ((IntKind.u64.wrap ((IntKind.u64.wrap (z20+(bits .xor .u64 (bits .xor .u64 (bits .or .u64 (Int.fdiv e17 (2 ^ 14)) (IntKind.u64.wrap (e17*2 ^ 50))) (bits .or .u64 (Int.fdiv e17 (2 ^ 18)) (IntKind.u64.wrap (e17*2 ^ 46)))) (bits .or .u64 (Int.fdiv e17 (2 ^ 41)) (IntKind.u64.wrap (e17*2 ^ 23))))))+(bits .or .u64 (bits .and .u64 e17 f18) (bits .and .u64 (bits .xor .u64 IntKind.u64.max e17) g19))))+v_30))+v_31)))) e17 f18 g19 (IntKind.i64.wrap (t21+1)) w.drew) else none) else none) else(some ((a13,b14,c15,d16,e17,f18,g19,z20,()),w))
noncomputable def K_2r (K:Nat) (n:Nat):Addr→Addr→Addr→Int→Int→Int→Int→Int→Int→Int→Int→Int→World→Option ((Int×Int×Int×Int×Int×Int×Int×Int×Unit)×World):=iter (fun _ _ _ _ _ _ _ _ _ _ _ _ _=>none) (K_6c K) n
noncomputable def K_9g (K:Nat) (h0:Array Value) (block1:Sl) (w:World):Option (((Array Value)×Unit)×World):=
 bnd (newB h0 150 w) fun p_1 w_2=>
 bnd (newB z150 150 w_2) fun p_3 w_4=>
 bnd (newB z175 175 w_4) fun w_5 w_6=>
 bnd (K_2x K K block1 p_1 p_3 w_5 0 w_6) fun y_13 w_14=>
 bnd (K_2p K K p_1 p_3 w_5 16 w_14) fun y_20 w_21=>
 (ldI .u64 (p_1.add (0*1)) w_21.drew).bind fun v_22=>
 (ldI .u64 (p_1.add (1*1)) w_21.drew).bind fun v_23=>
 (ldI .u64 (p_1.add (2*1)) w_21.drew).bind fun v_24=>
 (ldI .u64 (p_1.add (3*1)) w_21.drew).bind fun v_25=>
 (ldI .u64 (p_1.add (4*1)) w_21.drew.drew).bind fun v_26=>
 (ldI .u64 (p_1.add (5*1)) w_21.drew.drew).bind fun v_27=>
 (ldI .u64 (p_1.add (6*1)) w_21.drew.drew).bind fun v_28=>
 (ldI .u64 (p_1.add (7*1)) w_21.drew.drew).bind fun v_29=>
 bnd (K_2r K K p_1 p_3 w_5 v_22 v_23 v_24 v_25 v_26 v_27 v_28 v_29 0 w_21.drew.drew) fun y_32 w_33=>
 (ldI .u64 (p_1.add (0*1)) w_33).bind fun v_34=>
 (ldI .u64 (p_1.add (1*1)) w_33).bind fun v_35=>
 (ldI .u64 (p_1.add (2*1)) w_33).bind fun v_36=>
 (ldI .u64 (p_1.add (3*1)) w_33).bind fun v_37=>
 (ldI .u64 (p_1.add (4*1)) w_33).bind fun v_38=>
 (ldI .u64 (p_1.add (5*1)) w_33).bind fun v_39=>
 (ldI .u64 (p_1.add (6*1)) w_33).bind fun v_40=>
 (ldI .u64 (p_1.add (7*1)) w_33).bind fun v_41=>
 (prog.built 150 [(0,(.int .u64 (IntKind.u64.wrap (v_34+y_32.1)))),(1,(.int .u64 (IntKind.u64.wrap (v_35+y_32.2.1)))),(2,(.int .u64 (IntKind.u64.wrap (v_36+y_32.2.2.1)))),(3,(.int .u64 (IntKind.u64.wrap (v_37+y_32.2.2.2.1)))),(4,(.int .u64 (IntKind.u64.wrap (v_38+y_32.2.2.2.2.1)))),(5,(.int .u64 (IntKind.u64.wrap (v_39+y_32.2.2.2.2.2.1)))),(6,(.int .u64 (IntKind.u64.wrap (v_40+y_32.2.2.2.2.2.2.1)))),(7,(.int .u64 (IntKind.u64.wrap (v_41+y_32.2.2.2.2.2.2.2.1))))]).bind fun cs_42=>
 if (cs_42).size=8 then((stA p_3 cs_42 w_33).bind fun w_43=>
 (ldA 8 p_3 w_43).bind fun res_44=>
 some ((res_44,()),w_43)) else none
theorem K_vr(K:Nat)(n:Nat):StmtNOk prog [(1,.sl),(2,.addr),(4,.addr),(5,.addr),(6,.int .i64),(7,.int .i64)] [] [(7,8),(30,49)] ((fun n x w=>K_30 K n x.1 x.2.1 x.2.2.1 x.2.2.2.1 x.2.2.2.2.1 x.2.2.2.2.2.1 w) n) (.block 2 (.loop (cd (bodyOf f101) [1,1,0,1,0,0,1,0,0,1,0,0]))):=
  K_4 (O:=tabL []) (root:=(bodyOf f101)) (π:=[1,1,0,1,0,0,1,0,0,1,0,0]) (Li:=[(1,.sl),(2,.addr),(4,.addr),(5,.addr),(6,.int .i64),(7,.int .i64)]) (Lo:=[]) (S:=(fun n x w=>K_30 K n x.1 x.2.1 x.2.2.1 x.2.2.2.1 x.2.2.2.2.1 x.2.2.2.2.2.1 w)) (K_78 K) (K_7e K) rfl (Orc.nil _ _ _) (by kernel_rfl) (fun _ _=>by kernel_rfl) (fun _ _ _=>by kernel_rfl) n
noncomputable def K_d3 (K:Nat):SE:=stmtN [(1,.sl),(2,.addr),(4,.addr),(5,.addr),(6,.int .i64),(7,.int .i64)] [] [(7,8),(30,49)] (fun x w=>K_30 K K x.1 x.2.1 x.2.2.1 x.2.2.2.1 x.2.2.2.2.1 x.2.2.2.2.2.1 w)
theorem K_fx(K:Nat)(R:Rg)(h:subRB [(7,8),(30,49)] R=true):(K_d3 K).Ok prog R (.block 2 (.loop (cd (bodyOf f101) [1,1,0,1,0,0,1,0,0,1,0,0]))):=K_2 (K_vr K K) (K_0 h)
theorem K_wl(K:Nat)(n:Nat):StmtNOk prog [(1,.sl),(2,.addr),(4,.addr),(5,.addr),(6,.int .i64)] [] [(6,8),(26,49)] ((fun n x w=>K_2x K n x.1 x.2.1 x.2.2.1 x.2.2.2.1 x.2.2.2.2.1 w) n) (.block 0 (.loop (cd (bodyOf f101) [1,1,0,1,0,0]))):=
  K_4 (O:=tabL [([1,1,0,1,0,0,1,0,0,1],K_d3 K)]) (root:=(bodyOf f101)) (π:=[1,1,0,1,0,0]) (Li:=[(1,.sl),(2,.addr),(4,.addr),(5,.addr),(6,.int .i64)]) (Lo:=[]) (S:=(fun n x w=>K_2x K n x.1 x.2.1 x.2.2.1 x.2.2.2.1 x.2.2.2.2.1 w)) (K_78 K) (K_7e K) rfl (Orc.cons (by kernel_rfl) (K_fx K [(6,8),(26,49)] (by kernel_rfl)) (Orc.nil _ _ _)) (by kernel_rfl) (fun _ _=>by kernel_rfl) (fun _ _ _=>by kernel_rfl) n
noncomputable def K_iu (K:Nat):SE:=stmtN [(1,.sl),(2,.addr),(4,.addr),(5,.addr),(6,.int .i64)] [] [(6,8),(26,49)] (fun x w=>K_2x K K x.1 x.2.1 x.2.2.1 x.2.2.2.1 x.2.2.2.2.1 w)
theorem K_qs(K:Nat)(R:Rg)(h:subRB [(6,8),(26,49)] R=true):(K_iu K).Ok prog R (.block 0 (.loop (cd (bodyOf f101) [1,1,0,1,0,0]))):=K_2 (K_wl K K) (K_0 h)
theorem K_w3(K:Nat)(n:Nat):StmtNOk prog [(2,.addr),(4,.addr),(5,.addr),(8,.int .i64)] [] [(8,13),(49,104)] ((fun n x w=>K_2p K n x.1 x.2.1 x.2.2.1 x.2.2.2.1 w) n) (.block 4 (.loop (cd (bodyOf f101) [1,1,1,0,1,0,0]))):=
  K_4 (O:=tabL []) (root:=(bodyOf f101)) (π:=[1,1,1,0,1,0,0]) (Li:=[(2,.addr),(4,.addr),(5,.addr),(8,.int .i64)]) (Lo:=[]) (S:=(fun n x w=>K_2p K n x.1 x.2.1 x.2.2.1 x.2.2.2.1 w)) (K_78 K) (K_7e K) rfl (Orc.nil _ _ _) (by kernel_rfl) (fun _ _=>by kernel_rfl) (fun _ _ _=>by kernel_rfl) n
noncomputable def K_ix (K:Nat):SE:=stmtN [(2,.addr),(4,.addr),(5,.addr),(8,.int .i64)] [] [(8,13),(49,104)] (fun x w=>K_2p K K x.1 x.2.1 x.2.2.1 x.2.2.2.1 w)
theorem K_qm(K:Nat)(R:Rg)(h:subRB [(8,13),(49,104)] R=true):(K_ix K).Ok prog R (.block 4 (.loop (cd (bodyOf f101) [1,1,1,0,1,0,0]))):=K_2 (K_w3 K K) (K_0 h)
theorem K_x1(K:Nat)(n:Nat):StmtNOk prog [(2,.addr),(4,.addr),(5,.addr),(13,.int .u64),(14,.int .u64),(15,.int .u64),(16,.int .u64),(17,.int .u64),(18,.int .u64),(19,.int .u64),(20,.int .u64),(21,.int .i64)] [(13,.int .u64),(14,.int .u64),(15,.int .u64),(16,.int .u64),(17,.int .u64),(18,.int .u64),(19,.int .u64),(20,.int .u64)] [(13,26),(120,203)] ((fun n x w=>K_2r K n x.1 x.2.1 x.2.2.1 x.2.2.2.1 x.2.2.2.2.1 x.2.2.2.2.2.1 x.2.2.2.2.2.2.1 x.2.2.2.2.2.2.2.1 x.2.2.2.2.2.2.2.2.1 x.2.2.2.2.2.2.2.2.2.1 x.2.2.2.2.2.2.2.2.2.2.1 x.2.2.2.2.2.2.2.2.2.2.2.1 w) n) (.block 6 (.loop (cd (bodyOf f101) [1,1,1,1,1,1,0,1,0,0]))):=
  K_4 (O:=tabL []) (root:=(bodyOf f101)) (π:=[1,1,1,1,1,1,0,1,0,0]) (Li:=[(2,.addr),(4,.addr),(5,.addr),(13,.int .u64),(14,.int .u64),(15,.int .u64),(16,.int .u64),(17,.int .u64),(18,.int .u64),(19,.int .u64),(20,.int .u64),(21,.int .i64)]) (Lo:=[(13,.int .u64),(14,.int .u64),(15,.int .u64),(16,.int .u64),(17,.int .u64),(18,.int .u64),(19,.int .u64),(20,.int .u64)]) (S:=(fun n x w=>K_2r K n x.1 x.2.1 x.2.2.1 x.2.2.2.1 x.2.2.2.2.1 x.2.2.2.2.2.1 x.2.2.2.2.2.2.1 x.2.2.2.2.2.2.2.1 x.2.2.2.2.2.2.2.2.1 x.2.2.2.2.2.2.2.2.2.1 x.2.2.2.2.2.2.2.2.2.2.1 x.2.2.2.2.2.2.2.2.2.2.2.1 w)) (K_78 K) (K_7e K) rfl (Orc.nil _ _ _) (by kernel_rfl) (fun _ _=>by kernel_rfl) (fun _ _ _=>by kernel_rfl) n
noncomputable def K_il (K:Nat):SE:=stmtN [(2,.addr),(4,.addr),(5,.addr),(13,.int .u64),(14,.int .u64),(15,.int .u64),(16,.int .u64),(17,.int .u64),(18,.int .u64),(19,.int .u64),(20,.int .u64),(21,.int .i64)] [(13,.int .u64),(14,.int .u64),(15,.int .u64),(16,.int .u64),(17,.int .u64),(18,.int .u64),(19,.int .u64),(20,.int .u64)] [(13,26),(120,203)] (fun x w=>K_2r K K x.1 x.2.1 x.2.2.1 x.2.2.2.1 x.2.2.2.2.1 x.2.2.2.2.2.1 x.2.2.2.2.2.2.1 x.2.2.2.2.2.2.2.1 x.2.2.2.2.2.2.2.2.1 x.2.2.2.2.2.2.2.2.2.1 x.2.2.2.2.2.2.2.2.2.2.1 x.2.2.2.2.2.2.2.2.2.2.2.1 w)
theorem K_r0(K:Nat)(R:Rg)(h:subRB [(13,26),(120,203)] R=true):(K_il K).Ok prog R (.block 6 (.loop (cd (bodyOf f101) [1,1,1,1,1,1,0,1,0,0]))):=K_2 (K_x1 K K) (K_0 h)
theorem K_j0:FunFacts prog 101 f101 (bodyOf f101) [(0,.agg),(1,.sl)] [(0,236)]:=⟨func101,by kernel_rfl,by kernel_rfl,by kernel_rfl,by kernel_rfl,by kernel_rfl⟩
theorem K_x7(K:Nat)(x:TT [(0,.agg),(1,.sl)])(w:World)(y:TR [.agg])(w2:World)(h:K_9g K x.1 x.2.1 w=some (y,w2)):Calls prog 101 (encA [(0,.agg),(1,.sl)] x).toArray w (fun e w3=>e= .returned (resV (encR [.agg] y))∧w3=w2):=
  K_b (O:=tabL [([1,1,0,1],K_iu K),([1,1,0,1,0,0,1,0,0,1],K_d3 K),([1,1,1,0,1],K_ix K),([1,1,1,1,1,1,0,1],K_il K)]) (Lp:=[(0,.agg),(1,.sl)]) (Rt:=[.agg]) (S:=(fun x w=>K_9g K x.1 x.2.1 w)) (K_78 K) (K_7e K) rfl K_j0 (Orc.cons (by kernel_rfl) (K_qs K [(0,236)] (by kernel_rfl)) (Orc.cons (by kernel_rfl) (K_fx K [(0,236)] (by kernel_rfl)) (Orc.cons (by kernel_rfl) (K_qm K [(0,236)] (by kernel_rfl)) (Orc.cons (by kernel_rfl) (K_r0 K [(0,236)] (by kernel_rfl)) (Orc.nil _ _ _))))) (fun _ _=>by kernel_rfl) x w y w2 h
noncomputable def K_o0 (K:Nat):CE:=funE [(0,.agg),(1,.sl)] [.agg] (fun x w=>K_9g K x.1 x.2.1 w)
theorem K_127(K:Nat):(K_o0 K).Ok prog 101:=K_8 K_j0 fun x w y w2 h=>K_x7 K x w y w2 h
noncomputable def K_1b9:List (Nat×RE):=[]
theorem K_168:REnv.Ok prog (tab (K_1b9)):=(REnv.nil _)
noncomputable def K_c4 (hash0:Int):Option (Int×Unit):=
 if (hash0 == 224)=true then(some ((IntKind.i64.wrap (Int.tdiv hash0 8)),())) else(if (hash0 == 256)=true then(some ((IntKind.i64.wrap (Int.tdiv hash0 8)),())) else(if (hash0 == 384)=true then(some ((IntKind.i64.wrap (Int.tdiv hash0 8)),())) else(if (hash0 == 512)=true then(some ((IntKind.i64.wrap (Int.tdiv hash0 8)),())) else(some (0,())))))
theorem K_oe:FunFacts prog 66 f66 (bodyOf f66) [(0,.int .i64)] [(0,11)]:=⟨func66,by kernel_rfl,by kernel_rfl,by kernel_rfl,by kernel_rfl,by kernel_rfl⟩
theorem K_122(x:TT [(0,.int .i64)])(w:World)(y:TR [.int .i64])(h:K_c4 x.1=some y):Calls prog 66 (encA [(0,.int .i64)] x).toArray w (fun e w3=>e= .returned (resV (encR [.int .i64] y))∧w3=w):=
  K_4j (O:=tabL []) (Lp:=[(0,.int .i64)]) (Rt:=[.int .i64]) (S:=(fun x w=>K_c4 x.1)) (K_168) K_oe (OrcQ.nil _ _ _) (fun _ _=>by kernel_rfl) x w y h
noncomputable def K_vo:RE:=funR [(0,.int .i64)] [.int .i64] (fun x w=>K_c4 x.1)
theorem K_19b:(K_vo).Ok prog 66:=K_4x K_oe fun x w y h=>K_122 x w y h
noncomputable def K_1c8 (K:Nat):List (Nat×CE):=[(98,K_t6 K),(99,K_va K),(100,K_pk K),(101,K_o0 K)]
theorem K_9j(K:Nat):Env.Ok prog (tab (K_1c8 K)):=(Env.cons (K_169 K) (Env.cons (K_18k K) (Env.cons (K_15k K) (Env.cons (K_127 K) (Env.nil _)))))
noncomputable def K_1cc (K:Nat):List (Nat×RE):=[(94,K_si),(66,K_vo)]
theorem K_9a(K:Nat):REnv.Ok prog (tab (K_1cc K)):=(REnv.cons (K_17b) (REnv.cons (K_19b) (REnv.nil _)))
noncomputable def K_ba (K:Nat) (rec:Addr→Sl→Int→World→Option ((Unit)×World)) (h6:Addr) (p7:Sl) (i9:Int) (w:World):Option ((Unit)×World):=
 if (decide (i9<((p7.len:Nat):Int)))=true then(if (0:Int)≤(IntKind.i64.wrap (i9+128))∧(IntKind.i64.wrap (i9+128))≤((p7.cap:Nat):Int) then(if (0:Int)≤i9∧i9≤(((Int.toNat ((IntKind.i64.wrap (i9+128)))):Nat):Int) then((ldA 8 h6 w.drew).bind fun v_13=>
 bnd (K_9g K v_13 ⟨(sla p7.a (Int.toNat (i9)) p7.cap 1),((Int.toNat ((IntKind.i64.wrap (i9+128)))) - (Int.toNat (i9))),(p7.cap - (Int.toNat (i9)))⟩ w.drew) fun r_14 w_15=>
 if (r_14.1).size=8 then((stA h6 r_14.1 w_15).bind fun w_16=>
 rec h6 p7 (IntKind.i64.wrap (i9+128)) w_16) else none) else none) else none) else(some ((),w))
noncomputable def K_6j (K:Nat) (n:Nat):Addr→Sl→Int→World→Option ((Unit)×World):=iter (fun _ _ _ _=>none) (K_ba K) n
noncomputable def K_b7 (K:Nat) (h6:Addr) (p7:Sl) (a25:Bool) (w:World):Option ((Unit)×World):=
 if a25=true then((ldA 8 h6 w).bind fun v_9=>
 bnd (K_bg K v_9 p7 w) fun r_10 w_11=>
 if (r_10.1).size=8 then((stA h6 r_10.1 w_11).bind fun w_12=>
 some ((),w_12)) else none) else(bnd (K_6j K K h6 p7 0 w) fun y_17 w_18=>
 some ((),w_18))
noncomputable def K_e2 (K:Nat) (hash0:Int) (out10:Sl) (j12:Int) (w:World):Option ((Bool×Unit)×World):=
 if (decide (j12≥0))=true then((K_c4 hash0).bind fun r_22=>
 some (((decide (((out10.len:Nat):Int)<r_22.1)),()),w)) else(some ((false,()),w))
noncomputable def K_bb (K:Nat) (rec:Int→Addr→Int→Sl→Int→Int→World→Option ((Sl×Unit)×World)) (hash0:Int) (h6:Addr) (n8:Int) (out10:Sl) (i11:Int) (j12:Int) (w:World):Option ((Sl×Unit)×World):=
 bnd (K_e2 K hash0 out10 j12 w) fun y_23 w_24=>
 if y_23.1=true then(if (0:Int)≤i11∧i11<((8:Nat):Int) then((ldI .u64 (h6.add ((Int.toNat i11)*1)) w_24).bind fun v_25=>
 if (0:Int)≤(IntKind.u64.wrap (IntKind.i64.wrap (8*j12))) then(bnd (bldS prog 23 1 #[(0,(.int .u8 (IntKind.u8.wrap (Int.fdiv v_25 (2 ^ (min (Int.toNat (IntKind.u64.wrap (IntKind.i64.wrap (8*j12)))) IntKind.u64.bits))))))] w_24) fun s_26 w_27=>
 bnd (apd prog 23 23 (.slice out10.a out10.len out10.cap) (.slice s_26.a s_26.len s_26.cap) w_27) fun s_28 w_29=>
 rec hash0 h6 n8 s_28 i11 (IntKind.i64.wrap (j12 - 1)) w_29) else none) else none) else(some ((out10,()),w_24))
noncomputable def K_94 (K:Nat) (n:Nat):Int→Addr→Int→Sl→Int→Int→World→Option ((Sl×Unit)×World):=iter (fun _ _ _ _ _ _ _=>none) (K_bb K) n
noncomputable def K_bk (K:Nat) (rec:Int→Addr→Int→Sl→Int→World→Option ((Sl×Unit)×World)) (hash0:Int) (h6:Addr) (n8:Int) (out10:Sl) (i11:Int) (w:World):Option ((Sl×Unit)×World):=
 (K_c4 hash0).bind fun r_21=>
 if (decide (((out10.len:Nat):Int)<r_21.1))=true then(bnd (K_94 K K hash0 h6 n8 out10 i11 (IntKind.i64.wrap (n8 - 1)) w) fun y_30 w_31=>
 rec hash0 h6 n8 y_30.1 (IntKind.i64.wrap (i11+1)) w_31) else(some ((out10,()),w))
noncomputable def K_67 (K:Nat) (n:Nat):Int→Addr→Int→Sl→Int→World→Option ((Sl×Unit)×World):=iter (fun _ _ _ _ _ _=>none) (K_bk K) n
noncomputable def K_dr (K:Nat) (hash0:Int) (b1:Sl) (w:World):Option ((Sl×Unit)×World):=
 (K_cq hash0).bind fun r_1=>
 if (r_1.1 == 0)=true then(some ((⟨none,0,0⟩,()),w)) else(bnd (K_cz K hash0 w) fun r_2 w_3=>
 bnd (newB z150 150 w_3) fun h_4 w_5=>
 if (r_2.1).size=8 then((stA h_4 r_2.1 w_5).bind fun w_6=>
 bnd (K_ep K b1 r_1.1 w_6) fun r_7 w_8=>
 bnd (K_b7 K h_4 r_7.1 ((IntKind.i64.wrap (Int.tdiv r_1.1 16)) == 4) w_8) fun y_19 w_20=>
 bnd (K_67 K K hash0 h_4 (IntKind.i64.wrap (Int.tdiv r_1.1 16)) ⟨none,0,0⟩ 0 w_20) fun y_32 w_33=>
 some ((y_32.1,()),w_33)) else none)
theorem K_15c(K:Nat)(n:Nat):StmtNOk prog [(6,.addr),(7,.sl),(9,.int .i64)] [] [(9,10),(29,42)] ((fun n x w=>K_6j K n x.1 x.2.1 x.2.2.1 w) n) (.block 0 (.loop (cd (bodyOf f75) [1,1,1,1,1,1,0,1,1,1,0,0]))):=
  K_4 (O:=tabL []) (root:=(bodyOf f75)) (π:=[1,1,1,1,1,1,0,1,1,1,0,0]) (Li:=[(6,.addr),(7,.sl),(9,.int .i64)]) (Lo:=[]) (S:=(fun n x w=>K_6j K n x.1 x.2.1 x.2.2.1 w)) (K_9j K) (K_9a K) rfl (Orc.nil _ _ _) (by kernel_rfl) (fun _ _=>by kernel_rfl) (fun _ _ _=>by kernel_rfl) n
noncomputable def K_ic (K:Nat):SE:=stmtN [(6,.addr),(7,.sl),(9,.int .i64)] [] [(9,10),(29,42)] (fun x w=>K_6j K K x.1 x.2.1 x.2.2.1 w)
theorem K_l1(K:Nat)(R:Rg)(h:subRB [(9,10),(29,42)] R=true):(K_ic K).Ok prog R (.block 0 (.loop (cd (bodyOf f75) [1,1,1,1,1,1,0,1,1,1,0,0]))):=K_2 (K_15c K K) (K_0 h)
theorem K_150(K:Nat):StmtNOk prog [(6,.addr),(7,.sl),(25,.bool)] [] [(9,10),(26,42)] (fun x w=>K_b7 K x.1 x.2.1 x.2.2.1 w) (cd (bodyOf f75) [1,1,1,1,1,1,0,1]):=
  K_g (O:=tabL [([1,1,1,1,1,1,0,1,1,1],K_ic K)]) (root:=(bodyOf f75)) (π:=[1,1,1,1,1,1,0,1]) (K_9j K) (K_9a K) rfl (Orc.cons (by kernel_rfl) (K_l1 K [(9,10),(26,42)] (by kernel_rfl)) (Orc.nil _ _ _)) (by kernel_rfl) (fun _ _=>by kernel_rfl)
noncomputable def K_qd (K:Nat):SE:=stmtN [(6,.addr),(7,.sl),(25,.bool)] [] [(9,10),(26,42)] (fun x w=>K_b7 K x.1 x.2.1 x.2.2.1 w)
theorem K_yv(K:Nat)(R:Rg)(h:subRB [(9,10),(26,42)] R=true):(K_qd K).Ok prog R (cd (bodyOf f75) [1,1,1,1,1,1,0,1]):=K_2 (K_150 K) (K_0 h)
theorem K_15t(K:Nat):StmtNOk prog [(0,.int .i64),(10,.sl),(12,.int .i64)] [(59,.bool)] [(51,60)] (fun x w=>K_e2 K x.1 x.2.1 x.2.2.1 w) (cd (bodyOf f75) [1,1,1,1,1,1,1,1,0,1,0,0,1,0,0,1,0,0,0,0]):=
  K_g (O:=tabL []) (root:=(bodyOf f75)) (π:=[1,1,1,1,1,1,1,1,0,1,0,0,1,0,0,1,0,0,0,0]) (K_9j K) (K_9a K) rfl (Orc.nil _ _ _) (by kernel_rfl) (fun _ _=>by kernel_rfl)
noncomputable def K_dl (K:Nat):SE:=stmtN [(0,.int .i64),(10,.sl),(12,.int .i64)] [(59,.bool)] [(51,60)] (fun x w=>K_e2 K x.1 x.2.1 x.2.2.1 w)
theorem K_e8(K:Nat)(R:Rg)(h:subRB [(51,60)] R=true):(K_dl K).Ok prog R (cd (bodyOf f75) [1,1,1,1,1,1,1,1,0,1,0,0,1,0,0,1,0,0,0,0]):=K_2 (K_15t K) (K_0 h)
theorem K_14f(K:Nat)(n:Nat):StmtNOk prog [(0,.int .i64),(6,.addr),(8,.int .i64),(10,.sl),(11,.int .i64),(12,.int .i64)] [(10,.sl)] [(10,11),(12,13),(51,73)] ((fun n x w=>K_94 K n x.1 x.2.1 x.2.2.1 x.2.2.2.1 x.2.2.2.2.1 x.2.2.2.2.2.1 w) n) (.block 4 (.loop (cd (bodyOf f75) [1,1,1,1,1,1,1,1,0,1,0,0,1,0,0,1,0,0]))):=
  K_4 (O:=tabL [([1,1,1,1,1,1,1,1,0,1,0,0,1,0,0,1,0,0,0,0],K_dl K)]) (root:=(bodyOf f75)) (π:=[1,1,1,1,1,1,1,1,0,1,0,0,1,0,0,1,0,0]) (Li:=[(0,.int .i64),(6,.addr),(8,.int .i64),(10,.sl),(11,.int .i64),(12,.int .i64)]) (Lo:=[(10,.sl)]) (S:=(fun n x w=>K_94 K n x.1 x.2.1 x.2.2.1 x.2.2.2.1 x.2.2.2.2.1 x.2.2.2.2.2.1 w)) (K_9j K) (K_9a K) rfl (Orc.cons (by kernel_rfl) (K_e8 K [(10,11),(12,13),(51,73)] (by kernel_rfl)) (Orc.nil _ _ _)) (by kernel_rfl) (fun _ _=>by kernel_rfl) (fun _ _ _=>by kernel_rfl) n
noncomputable def K_hg (K:Nat):SE:=stmtN [(0,.int .i64),(6,.addr),(8,.int .i64),(10,.sl),(11,.int .i64),(12,.int .i64)] [(10,.sl)] [(10,11),(12,13),(51,73)] (fun x w=>K_94 K K x.1 x.2.1 x.2.2.1 x.2.2.2.1 x.2.2.2.2.1 x.2.2.2.2.2.1 w)
theorem K_l5(K:Nat)(R:Rg)(h:subRB [(10,11),(12,13),(51,73)] R=true):(K_hg K).Ok prog R (.block 4 (.loop (cd (bodyOf f75) [1,1,1,1,1,1,1,1,0,1,0,0,1,0,0,1,0,0]))):=K_2 (K_14f K K) (K_0 h)
theorem K_140(K:Nat)(n:Nat):StmtNOk prog [(0,.int .i64),(6,.addr),(8,.int .i64),(10,.sl),(11,.int .i64)] [(10,.sl)] [(10,13),(42,73)] ((fun n x w=>K_67 K n x.1 x.2.1 x.2.2.1 x.2.2.2.1 x.2.2.2.2.1 w) n) (.block 2 (.loop (cd (bodyOf f75) [1,1,1,1,1,1,1,1,0,1,0,0]))):=
  K_4 (O:=tabL [([1,1,1,1,1,1,1,1,0,1,0,0,1,0,0,1],K_hg K),([1,1,1,1,1,1,1,1,0,1,0,0,1,0,0,1,0,0,0,0],K_dl K)]) (root:=(bodyOf f75)) (π:=[1,1,1,1,1,1,1,1,0,1,0,0]) (Li:=[(0,.int .i64),(6,.addr),(8,.int .i64),(10,.sl),(11,.int .i64)]) (Lo:=[(10,.sl)]) (S:=(fun n x w=>K_67 K n x.1 x.2.1 x.2.2.1 x.2.2.2.1 x.2.2.2.2.1 w)) (K_9j K) (K_9a K) rfl (Orc.cons (by kernel_rfl) (K_l5 K [(10,13),(42,73)] (by kernel_rfl)) (Orc.cons (by kernel_rfl) (K_e8 K [(10,13),(42,73)] (by kernel_rfl)) (Orc.nil _ _ _))) (by kernel_rfl) (fun _ _=>by kernel_rfl) (fun _ _ _=>by kernel_rfl) n
noncomputable def K_q8 (K:Nat):SE:=stmtN [(0,.int .i64),(6,.addr),(8,.int .i64),(10,.sl),(11,.int .i64)] [(10,.sl)] [(10,13),(42,73)] (fun x w=>K_67 K K x.1 x.2.1 x.2.2.1 x.2.2.2.1 x.2.2.2.2.1 w)
theorem K_y9(K:Nat)(R:Rg)(h:subRB [(10,13),(42,73)] R=true):(K_q8 K).Ok prog R (.block 2 (.loop (cd (bodyOf f75) [1,1,1,1,1,1,1,1,0,1,0,0]))):=K_2 (K_140 K K) (K_0 h)
theorem K_pq:FunFacts prog 75 f75 (bodyOf f75) [(0,.int .i64),(1,.sl)] [(0,74)]:=⟨func75,by kernel_rfl,by kernel_rfl,by kernel_rfl,by kernel_rfl,by kernel_rfl⟩
theorem K_15i(K:Nat)(x:TT [(0,.int .i64),(1,.sl)])(w:World)(y:TR [.sl])(w2:World)(h:K_dr K x.1 x.2.1 w=some (y,w2)):Calls prog 75 (encA [(0,.int .i64),(1,.sl)] x).toArray w (fun e w3=>e= .returned (resV (encR [.sl] y))∧w3=w2):=
  K_b (O:=tabL [([1,1,1,1,1,1,0,1],K_qd K),([1,1,1,1,1,1,0,1,1,1],K_ic K),([1,1,1,1,1,1,1,1,0,1],K_q8 K),([1,1,1,1,1,1,1,1,0,1,0,0,1,0,0,1],K_hg K),([1,1,1,1,1,1,1,1,0,1,0,0,1,0,0,1,0,0,0,0],K_dl K)]) (Lp:=[(0,.int .i64),(1,.sl)]) (Rt:=[.sl]) (S:=(fun x w=>K_dr K x.1 x.2.1 w)) (K_9j K) (K_9a K) rfl K_pq (Orc.cons (by kernel_rfl) (K_yv K [(0,74)] (by kernel_rfl)) (Orc.cons (by kernel_rfl) (K_l1 K [(0,74)] (by kernel_rfl)) (Orc.cons (by kernel_rfl) (K_y9 K [(0,74)] (by kernel_rfl)) (Orc.cons (by kernel_rfl) (K_l5 K [(0,74)] (by kernel_rfl)) (Orc.cons (by kernel_rfl) (K_e8 K [(0,74)] (by kernel_rfl)) (Orc.nil _ _ _)))))) (fun _ _=>by kernel_rfl) x w y w2 h
noncomputable def K_yw (K:Nat):CE:=funE [(0,.int .i64),(1,.sl)] [.sl] (fun x w=>K_dr K x.1 x.2.1 w)
theorem K_1bc(K:Nat):(K_yw K).Ok prog 75:=K_8 K_pq fun x w y w2 h=>K_15i K x w y w2 h
noncomputable def K_1ch (K:Nat):List (Nat×CE):=[(75,K_yw K)]
theorem K_18s(K:Nat):Env.Ok prog (tab (K_1ch K)):=(Env.cons (K_1bc K) (Env.nil _))
noncomputable def K_1cj (K:Nat):List (Nat×RE):=[]
theorem K_18u(K:Nat):REnv.Ok prog (tab (K_1cj K)):=(REnv.nil _)
noncomputable def K_gq (K:Nat) (set0:Int) (secret1:Sl) (w:World):Option ((Sl×Unit)×World):=
 bnd (bldS prog 23 2 #[(0,(.int .u8 (IntKind.u8.wrap (IntKind.u16.wrap (Int.tdiv set0 256))))),(1,(.int .u8 (IntKind.u8.wrap (Int.tmod set0 256))))] w) fun s_1 w_2=>
 bnd (apd prog 23 23 (.slice s_1.a s_1.len s_1.cap) (.slice secret1.a secret1.len secret1.cap) w_2) fun s_3 w_4=>
 bnd (K_dr K 256 s_3 w_4) fun r_5 w_6=>
 bnd (apd prog 23 23 (.slice none 0 0) (.slice secret1.a secret1.len secret1.cap) w_6) fun s_7 w_8=>
 if (0:Int)≤4∧4≤((r_5.1.cap:Nat):Int) then(bnd (apd prog 23 23 (.slice s_7.a s_7.len s_7.cap) (.slice (sla r_5.1.a 0 r_5.1.cap 1) (4 - 0) (r_5.1.cap - 0)) w_8) fun s_9 w_10=>
 some ((s_9,()),w_10)) else none
theorem K_qf:FunFacts prog 47 f47 (bodyOf f47) [(0,.int .u16),(1,.sl)] [(0,26)]:=⟨func47,by kernel_rfl,by kernel_rfl,by kernel_rfl,by kernel_rfl,by kernel_rfl⟩
theorem K_149(K:Nat)(x:TT [(0,.int .u16),(1,.sl)])(w:World)(y:TR [.sl])(w2:World)(h:K_gq K x.1 x.2.1 w=some (y,w2)):Calls prog 47 (encA [(0,.int .u16),(1,.sl)] x).toArray w (fun e w3=>e= .returned (resV (encR [.sl] y))∧w3=w2):=
  K_b (O:=tabL []) (Lp:=[(0,.int .u16),(1,.sl)]) (Rt:=[.sl]) (S:=(fun x w=>K_gq K x.1 x.2.1 w)) (K_18s K) (K_18u K) rfl K_qf (Orc.nil _ _ _) (fun _ _=>by kernel_rfl) x w y w2 h
noncomputable def K_y2 (K:Nat):CE:=funE [(0,.int .u16),(1,.sl)] [.sl] (fun x w=>K_gq K x.1 x.2.1 w)
theorem K_1av(K:Nat):(K_y2 K).Ok prog 47:=K_8 K_qf fun x w y w2 h=>K_149 K x w y w2 h
noncomputable def K_19c (K:Nat):List (Nat×RE):=[]
theorem K_id(K:Nat):REnv.Ok prog (tab (K_19c K)):=(REnv.nil _)
noncomputable def K_90 (K:Nat) (rec:Int→Int→Int→Int→Option (Out (Int×Unit) (Int×Unit))) (a0:Int) (b1:Int) (p5:Int) (i6:Int):Option (Out (Int×Unit) (Int×Unit)):=
 if (decide (i6<8))=true then(if (0:Int)≤(IntKind.u64.wrap i6) then(if ((Int.tmod (Int.fdiv (IntKind.i64.wrap b1) (2 ^ (min (Int.toNat (IntKind.u64.wrap i6)) IntKind.i64.bits))) 2) == 1)=true then(if (0:Int)≤(IntKind.u64.wrap i6) then(rec a0 b1 (bits .xor .i64 p5 (IntKind.i64.wrap ((IntKind.i64.wrap a0)*2 ^ (min (Int.toNat (IntKind.u64.wrap i6)) IntKind.i64.bits)))) (IntKind.i64.wrap (i6+1))) else none) else(rec a0 b1 p5 (IntKind.i64.wrap (i6+1)))) else none) else(some (.norm (p5,())))
noncomputable def K_4q (K:Nat) (n:Nat):Int→Int→Int→Int→Option (Out (Int×Unit) (Int×Unit)):=iter (fun _ _ _ _=>none) (K_90 K) n
noncomputable def K_8i (K:Nat) (rec:Int→Int→Option (Out (Int×Unit) (Int×Unit))) (p5:Int) (i7:Int):Option (Out (Int×Unit) (Int×Unit)):=
 if (decide (i7≥8))=true then(if (0:Int)≤(IntKind.u64.wrap i7) then(if ((Int.tmod (Int.fdiv p5 (2 ^ (min (Int.toNat (IntKind.u64.wrap i7)) IntKind.i64.bits))) 2) == 1)=true then(if (0:Int)≤(IntKind.u64.wrap (IntKind.i64.wrap (i7 - 8))) then(rec (bits .xor .i64 p5 (IntKind.i64.wrap (283*2 ^ (min (Int.toNat (IntKind.u64.wrap (IntKind.i64.wrap (i7 - 8)))) IntKind.i64.bits)))) (IntKind.i64.wrap (i7 - 1))) else none) else(rec p5 (IntKind.i64.wrap (i7 - 1)))) else none) else(some (.norm (p5,())))
noncomputable def K_39 (K:Nat) (n:Nat):Int→Int→Option (Out (Int×Unit) (Int×Unit)):=iter (fun _ _=>none) (K_8i K) n
noncomputable def K_aj (K:Nat) (a0:Int) (b1:Int):Option (Int×Unit):=
 (K_4q K K a0 b1 0 0).bind fun y_1=>
 (match y_1 with
 | .norm z_2n=>((K_39 K K z_2n.1 14).bind fun y_3=>
 (match y_3 with
 | .norm z_4n=>(some ((IntKind.u8.wrap z_4n.1),()))
 | .ret z_4r=>(some (z_4r.1,()))))
 | .ret z_2r=>(some (z_2r.1,())))
theorem K_107(K:Nat)(n:Nat):StmtQOk prog [(0,.int .u8),(1,.int .u8),(5,.int .i64),(6,.int .i64)] [(5,.int .i64)] [(4,.int .u8)] [(5,7),(8,26)] ((fun n x w=>K_4q K n x.1 x.2.1 x.2.2.1 x.2.2.2.1) n) (.block 0 (.loop (cd (bodyOf f102) [1,1,0,1,0,0]))):=
  K_c1 (O:=tabL []) (root:=(bodyOf f102)) (π:=[1,1,0,1,0,0]) (Li:=[(0,.int .u8),(1,.int .u8),(5,.int .i64),(6,.int .i64)]) (Lo:=[(5,.int .i64)]) (Lr:=[(4,.int .u8)]) (S:=(fun n x w=>K_4q K n x.1 x.2.1 x.2.2.1 x.2.2.2.1)) (K_id K) (OrcQ.nil _ _ _) (by kernel_rfl) (fun _ _=>by kernel_rfl) (fun _ _ _=>by kernel_rfl) n
noncomputable def K_lm (K:Nat):SQ:=stmtQ [(0,.int .u8),(1,.int .u8),(5,.int .i64),(6,.int .i64)] [(5,.int .i64)] [(4,.int .u8)] [(5,7),(8,26)] (fun x w=>K_4q K K x.1 x.2.1 x.2.2.1 x.2.2.2.1)
theorem K_tq(K:Nat)(R:Rg)(h:subRB [(5,7),(8,26)] R=true):(K_lm K).Ok prog R (.block 0 (.loop (cd (bodyOf f102) [1,1,0,1,0,0]))):=K_8r (K_107 K K) (K_0 h)
theorem K_10g(K:Nat)(n:Nat):StmtQOk prog [(5,.int .i64),(7,.int .i64)] [(5,.int .i64)] [(4,.int .u8)] [(5,6),(7,8),(26,42)] ((fun n x w=>K_39 K n x.1 x.2.1) n) (.block 2 (.loop (cd (bodyOf f102) [1,1,1,0,1,0,0]))):=
  K_c1 (O:=tabL []) (root:=(bodyOf f102)) (π:=[1,1,1,0,1,0,0]) (Li:=[(5,.int .i64),(7,.int .i64)]) (Lo:=[(5,.int .i64)]) (Lr:=[(4,.int .u8)]) (S:=(fun n x w=>K_39 K n x.1 x.2.1)) (K_id K) (OrcQ.nil _ _ _) (by kernel_rfl) (fun _ _=>by kernel_rfl) (fun _ _ _=>by kernel_rfl) n
noncomputable def K_lk (K:Nat):SQ:=stmtQ [(5,.int .i64),(7,.int .i64)] [(5,.int .i64)] [(4,.int .u8)] [(5,6),(7,8),(26,42)] (fun x w=>K_39 K K x.1 x.2.1)
theorem K_v3(K:Nat)(R:Rg)(h:subRB [(5,6),(7,8),(26,42)] R=true):(K_lk K).Ok prog R (.block 2 (.loop (cd (bodyOf f102) [1,1,1,0,1,0,0]))):=K_8r (K_10g K K) (K_0 h)
theorem K_ls:FunFacts prog 102 f102 (bodyOf f102) [(0,.int .u8),(1,.int .u8)] [(0,44)]:=⟨func102,by kernel_rfl,by kernel_rfl,by kernel_rfl,by kernel_rfl,by kernel_rfl⟩
theorem K_104(K:Nat)(x:TT [(0,.int .u8),(1,.int .u8)])(w:World)(y:TR [.int .u8])(h:K_aj K x.1 x.2.1=some y):Calls prog 102 (encA [(0,.int .u8),(1,.int .u8)] x).toArray w (fun e w3=>e= .returned (resV (encR [.int .u8] y))∧w3=w):=
  K_4j (O:=tabL [([1,1,0,1],K_lm K),([1,1,1,0,1],K_lk K)]) (Lp:=[(0,.int .u8),(1,.int .u8)]) (Rt:=[.int .u8]) (S:=(fun x w=>K_aj K x.1 x.2.1)) (K_id K) K_ls (OrcQ.cons (by kernel_rfl) (K_tq K [(0,44)] (by kernel_rfl)) (OrcQ.cons (by kernel_rfl) (K_v3 K [(0,44)] (by kernel_rfl)) (OrcQ.nil _ _ _))) (fun _ _=>by kernel_rfl) x w y h
noncomputable def K_sc (K:Nat):RE:=funR [(0,.int .u8),(1,.int .u8)] [.int .u8] (fun x w=>K_aj K x.1 x.2.1)
theorem K_16s(K:Nat):(K_sc K).Ok prog 102:=K_4x K_ls fun x w y h=>K_104 K x w y h
noncomputable def K_18j (K:Nat):List (Nat×RE):=[(102,K_sc K)]
theorem K_159(K:Nat):REnv.Ok prog (tab (K_18j K)):=(REnv.cons (K_16s K) (REnv.nil _))
noncomputable def K_c (K:Nat) (a0:Int) (b1:Int):Option (Int×Unit):=
 (K_aj K a0 b1).bind fun r_1=>
 some (r_1.1,())
theorem K_m1:FunFacts prog 76 f76 (bodyOf f76) [(0,.int .u8),(1,.int .u8)] [(0,8)]:=⟨func76,by kernel_rfl,by kernel_rfl,by kernel_rfl,by kernel_rfl,by kernel_rfl⟩
theorem K_zv(K:Nat)(x:TT [(0,.int .u8),(1,.int .u8)])(w:World)(y:TR [.int .u8])(h:K_c K x.1 x.2.1=some y):Calls prog 76 (encA [(0,.int .u8),(1,.int .u8)] x).toArray w (fun e w3=>e= .returned (resV (encR [.int .u8] y))∧w3=w):=
  K_4j (O:=tabL []) (Lp:=[(0,.int .u8),(1,.int .u8)]) (Rt:=[.int .u8]) (S:=(fun x w=>K_c K x.1 x.2.1)) (K_159 K) K_m1 (OrcQ.nil _ _ _) (fun _ _=>by kernel_rfl) x w y h
noncomputable def K_4e (K:Nat):RE:=funR [(0,.int .u8),(1,.int .u8)] [.int .u8] (fun x w=>K_c K x.1 x.2.1)
theorem K_5z(K:Nat):(K_4e K).Ok prog 76:=K_4x K_m1 fun x w y h=>K_zv K x w y h
noncomputable def K_19p (K:Nat):List (Nat×RE):=[(76,K_4e K)]
theorem K_ps(K:Nat):REnv.Ok prog (tab (K_19p K)):=(REnv.cons (K_5z K) (REnv.nil _))
noncomputable def K_8l (K:Nat) (rec:Int→Int→Int→Int→Option (Out (Int×Unit) (Int×Unit))) (b0:Int) (n1:Int) (v5:Int) (i6:Int):Option (Out (Int×Unit) (Int×Unit)):=
 if (decide (i6<n1))=true then((K_c K v5 b0).bind fun r_1=>
 rec b0 n1 r_1.1 (IntKind.i64.wrap (i6+1))) else(some (.norm (v5,())))
noncomputable def K_4c (K:Nat) (n:Nat):Int→Int→Int→Int→Option (Out (Int×Unit) (Int×Unit)):=iter (fun _ _ _ _=>none) (K_8l K) n
noncomputable def K_ak (K:Nat) (b0:Int) (n1:Int):Option (Int×Unit):=
 (K_4c K K b0 n1 1 0).bind fun y_2=>
 (match y_2 with
 | .norm z_3n=>(some (z_3n.1,()))
 | .ret z_3r=>(some (z_3r.1,())))
theorem K_zz(K:Nat)(n:Nat):StmtQOk prog [(0,.int .u8),(1,.int .i64),(5,.int .u8),(6,.int .i64)] [(5,.int .u8)] [(4,.int .u8)] [(5,15)] ((fun n x w=>K_4c K n x.1 x.2.1 x.2.2.1 x.2.2.2.1) n) (.block 0 (.loop (cd (bodyOf f77) [1,1,0,1,0,0]))):=
  K_c1 (O:=tabL []) (root:=(bodyOf f77)) (π:=[1,1,0,1,0,0]) (Li:=[(0,.int .u8),(1,.int .i64),(5,.int .u8),(6,.int .i64)]) (Lo:=[(5,.int .u8)]) (Lr:=[(4,.int .u8)]) (S:=(fun n x w=>K_4c K n x.1 x.2.1 x.2.2.1 x.2.2.2.1)) (K_ps K) (OrcQ.nil _ _ _) (by kernel_rfl) (fun _ _=>by kernel_rfl) (fun _ _ _=>by kernel_rfl) n
noncomputable def K_mg (K:Nat):SQ:=stmtQ [(0,.int .u8),(1,.int .i64),(5,.int .u8),(6,.int .i64)] [(5,.int .u8)] [(4,.int .u8)] [(5,15)] (fun x w=>K_4c K K x.1 x.2.1 x.2.2.1 x.2.2.2.1)
theorem K_uv(K:Nat)(R:Rg)(h:subRB [(5,15)] R=true):(K_mg K).Ok prog R (.block 0 (.loop (cd (bodyOf f77) [1,1,0,1,0,0]))):=K_8r (K_zz K K) (K_0 h)
theorem K_mp:FunFacts prog 77 f77 (bodyOf f77) [(0,.int .u8),(1,.int .i64)] [(0,16)]:=⟨func77,by kernel_rfl,by kernel_rfl,by kernel_rfl,by kernel_rfl,by kernel_rfl⟩
theorem K_10z(K:Nat)(x:TT [(0,.int .u8),(1,.int .i64)])(w:World)(y:TR [.int .u8])(h:K_ak K x.1 x.2.1=some y):Calls prog 77 (encA [(0,.int .u8),(1,.int .i64)] x).toArray w (fun e w3=>e= .returned (resV (encR [.int .u8] y))∧w3=w):=
  K_4j (O:=tabL [([1,1,0,1],K_mg K)]) (Lp:=[(0,.int .u8),(1,.int .i64)]) (Rt:=[.int .u8]) (S:=(fun x w=>K_ak K x.1 x.2.1)) (K_ps K) K_mp (OrcQ.cons (by kernel_rfl) (K_uv K [(0,16)] (by kernel_rfl)) (OrcQ.nil _ _ _)) (fun _ _=>by kernel_rfl) x w y h
noncomputable def K_jl (K:Nat):RE:=funR [(0,.int .u8),(1,.int .i64)] [.int .u8] (fun x w=>K_ak K x.1 x.2.1)
theorem K_r5(K:Nat):(K_jl K).Ok prog 77:=K_4x K_mp fun x w y h=>K_10z K x w y h
noncomputable def K_19q (K:Nat):List (Nat×CE):=[]
theorem K_px(K:Nat):Env.Ok prog (tab (K_19q K)):=(Env.nil _)
noncomputable def K_18x (K:Nat):List (Nat×RE):=[(77,K_jl K),(76,K_4e K)]
theorem K_q2(K:Nat):REnv.Ok prog (tab (K_18x K)):=(REnv.cons (K_r5 K) (REnv.cons (K_5z K) (REnv.nil _)))
noncomputable def K_8f (K:Nat) (rec:Sl→Int→Int→Int→World→Option ((Int×Unit)×World)) (l0:Sl) (x1:Int) (v5:Int) (j6:Int) (w:World):Option ((Int×Unit)×World):=
 if (decide (j6<((l0.len:Nat):Int)))=true then((l0.a).bind fun p_1=>
 if (0:Int)≤j6∧j6<((l0.len:Nat):Int) then((ldI .u8 (p_1.add ((Int.toNat j6)*1)) w.drew).bind fun v_2=>
 (K_ak K (IntKind.u8.wrap x1) j6).bind fun r_3=>
 (K_c K v_2 r_3.1).bind fun r_4=>
 rec l0 x1 (bits .xor .u8 v5 r_4.1) (IntKind.i64.wrap (j6+1)) w.drew) else none) else(some ((v5,()),w))
noncomputable def K_4f (K:Nat) (n:Nat):Sl→Int→Int→Int→World→Option ((Int×Unit)×World):=iter (fun _ _ _ _ _=>none) (K_8f K) n
noncomputable def K_ct (K:Nat) (l0:Sl) (x1:Int) (w:World):Option ((Int×Unit)×World):=
 bnd (K_4f K K l0 x1 0 0 w) fun y_5 w_6=>
 some ((y_5.1,()),w_6)
theorem K_zl(K:Nat)(n:Nat):StmtNOk prog [(0,.sl),(1,.int .i64),(5,.int .u8),(6,.int .i64)] [(5,.int .u8)] [(5,24)] ((fun n x w=>K_4f K n x.1 x.2.1 x.2.2.1 x.2.2.2.1 w) n) (.block 0 (.loop (cd (bodyOf f48) [1,1,0,1,0,0]))):=
  K_4 (O:=tabL []) (root:=(bodyOf f48)) (π:=[1,1,0,1,0,0]) (Li:=[(0,.sl),(1,.int .i64),(5,.int .u8),(6,.int .i64)]) (Lo:=[(5,.int .u8)]) (S:=(fun n x w=>K_4f K n x.1 x.2.1 x.2.2.1 x.2.2.2.1 w)) (K_px K) (K_q2 K) rfl (Orc.nil _ _ _) (by kernel_rfl) (fun _ _=>by kernel_rfl) (fun _ _ _=>by kernel_rfl) n
noncomputable def K_mo (K:Nat):SE:=stmtN [(0,.sl),(1,.int .i64),(5,.int .u8),(6,.int .i64)] [(5,.int .u8)] [(5,24)] (fun x w=>K_4f K K x.1 x.2.1 x.2.2.1 x.2.2.2.1 w)
theorem K_u3(K:Nat)(R:Rg)(h:subRB [(5,24)] R=true):(K_mo K).Ok prog R (.block 0 (.loop (cd (bodyOf f48) [1,1,0,1,0,0]))):=K_2 (K_zl K K) (K_0 h)
theorem K_mh:FunFacts prog 48 f48 (bodyOf f48) [(0,.sl),(1,.int .i64)] [(0,25)]:=⟨func48,by kernel_rfl,by kernel_rfl,by kernel_rfl,by kernel_rfl,by kernel_rfl⟩
theorem K_109(K:Nat)(x:TT [(0,.sl),(1,.int .i64)])(w:World)(y:TR [.int .u8])(w2:World)(h:K_ct K x.1 x.2.1 w=some (y,w2)):Calls prog 48 (encA [(0,.sl),(1,.int .i64)] x).toArray w (fun e w3=>e= .returned (resV (encR [.int .u8] y))∧w3=w2):=
  K_b (O:=tabL [([1,1,0,1],K_mo K)]) (Lp:=[(0,.sl),(1,.int .i64)]) (Rt:=[.int .u8]) (S:=(fun x w=>K_ct K x.1 x.2.1 w)) (K_px K) (K_q2 K) rfl K_mh (Orc.cons (by kernel_rfl) (K_u3 K [(0,25)] (by kernel_rfl)) (Orc.nil _ _ _)) (fun _ _=>by kernel_rfl) x w y w2 h
noncomputable def K_t2 (K:Nat):CE:=funE [(0,.sl),(1,.int .i64)] [.int .u8] (fun x w=>K_ct K x.1 x.2.1 w)
theorem K_16n(K:Nat):(K_t2 K).Ok prog 48:=K_8 K_mh fun x w y w2 h=>K_109 K x w y w2 h
noncomputable def K_161 (K:Nat):List (Nat×CE):=[]
theorem K_os(K:Nat):Env.Ok prog (tab (K_161 K)):=(Env.nil _)
noncomputable def K_16o (K:Nat):List (Nat×RE):=[(76,K_4e K)]
theorem K_ob(K:Nat):REnv.Ok prog (tab (K_16o K)):=(REnv.cons (K_5z K) (REnv.nil _))
noncomputable def K_76 (K:Nat) (rec:Int→Sl→Int→Int→World→Option ((Sl×Unit)×World)) (n0:Int) (l3:Sl) (v4:Int) (i5:Int) (w:World):Option ((Sl×Unit)×World):=
 if (decide (i5<n0))=true then(bnd (bldS prog 23 1 #[(0,(.int .u8 v4))] w) fun s_1 w_2=>
 bnd (apd prog 23 23 (.slice l3.a l3.len l3.cap) (.slice s_1.a s_1.len s_1.cap) w_2) fun s_3 w_4=>
 (K_c K v4 3).bind fun r_5=>
 rec n0 s_3 r_5.1 (IntKind.i64.wrap (i5+1)) w_4) else(some ((l3,()),w))
noncomputable def K_3r (K:Nat) (n:Nat):Int→Sl→Int→Int→World→Option ((Sl×Unit)×World):=iter (fun _ _ _ _ _=>none) (K_76 K) n
noncomputable def K_2y (K:Nat) (n0:Int) (w:World):Option ((Sl×Unit)×World):=
 bnd (K_3r K K n0 ⟨none,0,0⟩ 1 0 w) fun y_6 w_7=>
 some ((y_6.1,()),w_7)
theorem K_ys(K:Nat)(n:Nat):StmtNOk prog [(0,.int .i64),(3,.sl),(4,.int .u8),(5,.int .i64)] [(3,.sl)] [(3,17)] ((fun n x w=>K_3r K n x.1 x.2.1 x.2.2.1 x.2.2.2.1 w) n) (.block 0 (.loop (cd (bodyOf f104) [1,1,1,0,1,0,0]))):=
  K_4 (O:=tabL []) (root:=(bodyOf f104)) (π:=[1,1,1,0,1,0,0]) (Li:=[(0,.int .i64),(3,.sl),(4,.int .u8),(5,.int .i64)]) (Lo:=[(3,.sl)]) (S:=(fun n x w=>K_3r K n x.1 x.2.1 x.2.2.1 x.2.2.2.1 w)) (K_os K) (K_ob K) rfl (Orc.nil _ _ _) (by kernel_rfl) (fun _ _=>by kernel_rfl) (fun _ _ _=>by kernel_rfl) n
noncomputable def K_kl (K:Nat):SE:=stmtN [(0,.int .i64),(3,.sl),(4,.int .u8),(5,.int .i64)] [(3,.sl)] [(3,17)] (fun x w=>K_3r K K x.1 x.2.1 x.2.2.1 x.2.2.2.1 w)
theorem K_s9(K:Nat)(R:Rg)(h:subRB [(3,17)] R=true):(K_kl K).Ok prog R (.block 0 (.loop (cd (bodyOf f104) [1,1,1,0,1,0,0]))):=K_2 (K_ys K K) (K_0 h)
theorem K_k1:FunFacts prog 104 f104 (bodyOf f104) [(0,.int .i64)] [(0,18)]:=⟨func104,by kernel_rfl,by kernel_rfl,by kernel_rfl,by kernel_rfl,by kernel_rfl⟩
theorem K_xg(K:Nat)(x:TT [(0,.int .i64)])(w:World)(y:TR [.sl])(w2:World)(h:K_2y K x.1 w=some (y,w2)):Calls prog 104 (encA [(0,.int .i64)] x).toArray w (fun e w3=>e= .returned (resV (encR [.sl] y))∧w3=w2):=
  K_b (O:=tabL [([1,1,1,0,1],K_kl K)]) (Lp:=[(0,.int .i64)]) (Rt:=[.sl]) (S:=(fun x w=>K_2y K x.1 w)) (K_os K) (K_ob K) rfl K_k1 (Orc.cons (by kernel_rfl) (K_s9 K [(0,18)] (by kernel_rfl)) (Orc.nil _ _ _)) (fun _ _=>by kernel_rfl) x w y w2 h
noncomputable def K_dh (K:Nat):CE:=funE [(0,.int .i64)] [.sl] (fun x w=>K_2y K x.1 w)
theorem K_ia(K:Nat):(K_dh K).Ok prog 104:=K_8 K_k1 fun x w y w2 h=>K_xg K x w y w2 h
end Go.Sh

namespace Go.Sh
open Go.Fw Go.Proofs.Tryd
noncomputable def K_1an (K:Nat):List (Nat×CE):=[(104,K_dh K)]
theorem K_jb(K:Nat):Env.Ok prog (tab (K_1an K)):=(Env.cons (K_ia K) (Env.nil _))
noncomputable def K_1al (K:Nat):List (Nat×RE):=[(76,K_4e K)]
theorem K_ja(K:Nat):REnv.Ok prog (tab (K_1al K)):=(REnv.cons (K_5z K) (REnv.nil _))
noncomputable def K_a0 (K:Nat) (rec:Sl→Addr→Addr→Sl→Int→Int→Int→World→Option ((Unit)×World)) (b0:Sl) (a2:Addr) (s3:Addr) (p4:Sl) (n5:Int) (i6:Int) (j7:Int) (w:World):Option ((Unit)×World):=
 if (decide (j7<4))=true then(if (0:Int)≤j7∧j7<((4:Nat):Int) then((b0.a).bind fun p_7=>
 if (0:Int)≤i6∧i6<((b0.len:Nat):Int) then((p4.a).bind fun p_8=>
 if (0:Int)≤(Int.tmod (IntKind.i64.wrap (j7*(IntKind.i64.wrap ((IntKind.i64.wrap (n5 - 1)) - i6)))) 255)∧(Int.tmod (IntKind.i64.wrap (j7*(IntKind.i64.wrap ((IntKind.i64.wrap (n5 - 1)) - i6)))) 255)<((p4.len:Nat):Int) then((ldI .u8 (s3.add ((Int.toNat j7)*1)) w.drew).bind fun v_9=>
 (ldI .u8 (p_7.add ((Int.toNat i6)*1)) w.drew).bind fun v_10=>
 (ldI .u8 (p_8.add ((Int.toNat (Int.tmod (IntKind.i64.wrap (j7*(IntKind.i64.wrap ((IntKind.i64.wrap (n5 - 1)) - i6)))) 255))*1)) w.drew).bind fun v_11=>
 (K_c K v_10 v_11).bind fun r_12=>
 if (0:Int)≤j7∧j7<((4:Nat):Int) then((stC (s3.add ((Int.toNat j7)*1)) (.int .u8 (bits .xor .u8 v_9 r_12.1)) w.drew).bind fun w_13=>
 rec b0 a2 s3 p4 n5 i6 (IntKind.i64.wrap (j7+1)) w_13) else none) else none) else none) else none) else(some ((),w))
noncomputable def K_32 (K:Nat) (n:Nat):Sl→Addr→Addr→Sl→Int→Int→Int→World→Option ((Unit)×World):=iter (fun _ _ _ _ _ _ _ _=>none) (K_a0 K) n
noncomputable def K_9w (K:Nat) (rec:Sl→Addr→Addr→Sl→Int→Int→World→Option ((Unit)×World)) (b0:Sl) (a2:Addr) (s3:Addr) (p4:Sl) (n5:Int) (i6:Int) (w:World):Option ((Unit)×World):=
 if (decide (i6<n5))=true then(bnd (K_32 K K b0 a2 s3 p4 n5 i6 0 w) fun y_14 w_15=>
 rec b0 a2 s3 p4 n5 (IntKind.i64.wrap (i6+1)) w_15) else(some ((),w))
noncomputable def K_5p (K:Nat) (n:Nat):Sl→Addr→Addr→Sl→Int→Int→World→Option ((Unit)×World):=iter (fun _ _ _ _ _ _ _=>none) (K_9w K) n
noncomputable def K_c0 (K:Nat) (b0:Sl) (w:World):Option (((Array Value)×Unit)×World):=
 bnd (newB z153 153 w) fun p_1 w_2=>
 bnd (newB z153 153 w_2) fun s_3 w_4=>
 bnd (K_2y K 255 w_4) fun r_5 w_6=>
 bnd (K_5p K K b0 p_1 s_3 r_5.1 ((b0.len:Nat):Int) 0 w_6) fun y_16 w_17=>
 (ldA 4 s_3 w_17).bind fun v_18=>
 if (v_18).size=4 then((stA p_1 v_18 w_17).bind fun w_19=>
 (ldA 4 p_1 w_19).bind fun res_20=>
 some ((res_20,()),w_19)) else none
theorem K_123(K:Nat)(n:Nat):StmtNOk prog [(0,.sl),(2,.addr),(3,.addr),(4,.sl),(5,.int .i64),(6,.int .i64),(7,.int .i64)] [] [(7,8),(16,41)] ((fun n x w=>K_32 K n x.1 x.2.1 x.2.2.1 x.2.2.2.1 x.2.2.2.2.1 x.2.2.2.2.2.1 x.2.2.2.2.2.2.1 w) n) (.block 2 (.loop (cd (bodyOf f103) [1,1,1,1,0,1,0,0,1,0,0,1,0,0]))):=
  K_4 (O:=tabL []) (root:=(bodyOf f103)) (π:=[1,1,1,1,0,1,0,0,1,0,0,1,0,0]) (Li:=[(0,.sl),(2,.addr),(3,.addr),(4,.sl),(5,.int .i64),(6,.int .i64),(7,.int .i64)]) (Lo:=[]) (S:=(fun n x w=>K_32 K n x.1 x.2.1 x.2.2.1 x.2.2.2.1 x.2.2.2.2.1 x.2.2.2.2.2.1 x.2.2.2.2.2.2.1 w)) (K_jb K) (K_ja K) rfl (Orc.nil _ _ _) (by kernel_rfl) (fun _ _=>by kernel_rfl) (fun _ _ _=>by kernel_rfl) n
noncomputable def K_ga (K:Nat):SE:=stmtN [(0,.sl),(2,.addr),(3,.addr),(4,.sl),(5,.int .i64),(6,.int .i64),(7,.int .i64)] [] [(7,8),(16,41)] (fun x w=>K_32 K K x.1 x.2.1 x.2.2.1 x.2.2.2.1 x.2.2.2.2.1 x.2.2.2.2.2.1 x.2.2.2.2.2.2.1 w)
theorem K_iw(K:Nat)(R:Rg)(h:subRB [(7,8),(16,41)] R=true):(K_ga K).Ok prog R (.block 2 (.loop (cd (bodyOf f103) [1,1,1,1,0,1,0,0,1,0,0,1,0,0]))):=K_2 (K_123 K K) (K_0 h)
theorem K_128(K:Nat)(n:Nat):StmtNOk prog [(0,.sl),(2,.addr),(3,.addr),(4,.sl),(5,.int .i64),(6,.int .i64)] [] [(6,8),(11,41)] ((fun n x w=>K_5p K n x.1 x.2.1 x.2.2.1 x.2.2.2.1 x.2.2.2.2.1 x.2.2.2.2.2.1 w) n) (.block 0 (.loop (cd (bodyOf f103) [1,1,1,1,0,1,0,0]))):=
  K_4 (O:=tabL [([1,1,1,1,0,1,0,0,1,0,0,1],K_ga K)]) (root:=(bodyOf f103)) (π:=[1,1,1,1,0,1,0,0]) (Li:=[(0,.sl),(2,.addr),(3,.addr),(4,.sl),(5,.int .i64),(6,.int .i64)]) (Lo:=[]) (S:=(fun n x w=>K_5p K n x.1 x.2.1 x.2.2.1 x.2.2.2.1 x.2.2.2.2.1 x.2.2.2.2.2.1 w)) (K_jb K) (K_ja K) rfl (Orc.cons (by kernel_rfl) (K_iw K [(6,8),(11,41)] (by kernel_rfl)) (Orc.nil _ _ _)) (by kernel_rfl) (fun _ _=>by kernel_rfl) (fun _ _ _=>by kernel_rfl) n
noncomputable def K_nt (K:Nat):SE:=stmtN [(0,.sl),(2,.addr),(3,.addr),(4,.sl),(5,.int .i64),(6,.int .i64)] [] [(6,8),(11,41)] (fun x w=>K_5p K K x.1 x.2.1 x.2.2.1 x.2.2.2.1 x.2.2.2.2.1 x.2.2.2.2.2.1 w)
theorem K_w6(K:Nat)(R:Rg)(h:subRB [(6,8),(11,41)] R=true):(K_nt K).Ok prog R (.block 0 (.loop (cd (bodyOf f103) [1,1,1,1,0,1,0,0]))):=K_2 (K_128 K K) (K_0 h)
theorem K_n7:FunFacts prog 103 f103 (bodyOf f103) [(0,.sl)] [(0,42)]:=⟨func103,by kernel_rfl,by kernel_rfl,by kernel_rfl,by kernel_rfl,by kernel_rfl⟩
theorem K_11m(K:Nat)(x:TT [(0,.sl)])(w:World)(y:TR [.agg])(w2:World)(h:K_c0 K x.1 w=some (y,w2)):Calls prog 103 (encA [(0,.sl)] x).toArray w (fun e w3=>e= .returned (resV (encR [.agg] y))∧w3=w2):=
  K_b (O:=tabL [([1,1,1,1,0,1],K_nt K),([1,1,1,1,0,1,0,0,1,0,0,1],K_ga K)]) (Lp:=[(0,.sl)]) (Rt:=[.agg]) (S:=(fun x w=>K_c0 K x.1 w)) (K_jb K) (K_ja K) rfl K_n7 (Orc.cons (by kernel_rfl) (K_w6 K [(0,42)] (by kernel_rfl)) (Orc.cons (by kernel_rfl) (K_iw K [(0,42)] (by kernel_rfl)) (Orc.nil _ _ _))) (fun _ _=>by kernel_rfl) x w y w2 h
noncomputable def K_lg (K:Nat):CE:=funE [(0,.sl)] [.agg] (fun x w=>K_c0 K x.1 w)
theorem K_vh(K:Nat):(K_lg K).Ok prog 103:=K_8 K_n7 fun x w y w2 h=>K_11m K x w y w2 h
noncomputable def K_19z (K:Nat):List (Nat×RE):=[(76,K_4e K)]
theorem K_r8(K:Nat):REnv.Ok prog (tab (K_19z K)):=(REnv.cons (K_5z K) (REnv.nil _))
noncomputable def K_9v (K:Nat) (rec:Int→Int→Int→Option (Out (Unit) (Int×Unit))) (a0:Int) (b1:Int) (v5:Int):Option (Out (Unit) (Int×Unit)):=
 if (decide (v5<256))=true then((K_c K (IntKind.u8.wrap v5) b1).bind fun r_1=>
 if (r_1.1 == a0)=true then(some (.ret ((IntKind.u8.wrap v5),()))) else(rec a0 b1 (IntKind.i64.wrap (v5+1)))) else(some (.norm ()))
noncomputable def K_5n (K:Nat) (n:Nat):Int→Int→Int→Option (Out (Unit) (Int×Unit)):=iter (fun _ _ _=>none) (K_9v K) n
noncomputable def K_aa (K:Nat) (a0:Int) (b1:Int):Option (Int×Unit):=
 (K_5n K K a0 b1 0).bind fun y_2=>
 (match y_2 with
 | .norm z_3n=>(some (0,()))
 | .ret z_3r=>(some (z_3r.1,())))
theorem K_13b(K:Nat)(n:Nat):StmtQOk prog [(0,.int .u8),(1,.int .u8),(5,.int .i64)] [] [(4,.int .u8)] [(4,18)] ((fun n x w=>K_5n K n x.1 x.2.1 x.2.2.1) n) (.block 0 (.loop (cd (bodyOf f112) [1,0,1,0,0]))):=
  K_c1 (O:=tabL []) (root:=(bodyOf f112)) (π:=[1,0,1,0,0]) (Li:=[(0,.int .u8),(1,.int .u8),(5,.int .i64)]) (Lo:=[]) (Lr:=[(4,.int .u8)]) (S:=(fun n x w=>K_5n K n x.1 x.2.1 x.2.2.1)) (K_r8 K) (OrcQ.nil _ _ _) (by kernel_rfl) (fun _ _=>by kernel_rfl) (fun _ _ _=>by kernel_rfl) n
noncomputable def K_nd (K:Nat):SQ:=stmtQ [(0,.int .u8),(1,.int .u8),(5,.int .i64)] [] [(4,.int .u8)] [(4,18)] (fun x w=>K_5n K K x.1 x.2.1 x.2.2.1)
theorem K_we(K:Nat)(R:Rg)(h:subRB [(4,18)] R=true):(K_nd K).Ok prog R (.block 0 (.loop (cd (bodyOf f112) [1,0,1,0,0]))):=K_8r (K_13b K K) (K_0 h)
theorem K_oa:FunFacts prog 112 f112 (bodyOf f112) [(0,.int .u8),(1,.int .u8)] [(0,18)]:=⟨func112,by kernel_rfl,by kernel_rfl,by kernel_rfl,by kernel_rfl,by kernel_rfl⟩
theorem K_11q(K:Nat)(x:TT [(0,.int .u8),(1,.int .u8)])(w:World)(y:TR [.int .u8])(h:K_aa K x.1 x.2.1=some y):Calls prog 112 (encA [(0,.int .u8),(1,.int .u8)] x).toArray w (fun e w3=>e= .returned (resV (encR [.int .u8] y))∧w3=w):=
  K_4j (O:=tabL [([1,0,1],K_nd K)]) (Lp:=[(0,.int .u8),(1,.int .u8)]) (Rt:=[.int .u8]) (S:=(fun x w=>K_aa K x.1 x.2.1)) (K_r8 K) K_oa (OrcQ.cons (by kernel_rfl) (K_we K [(0,18)] (by kernel_rfl)) (OrcQ.nil _ _ _)) (fun _ _=>by kernel_rfl) x w y h
noncomputable def K_vc (K:Nat):RE:=funR [(0,.int .u8),(1,.int .u8)] [.int .u8] (fun x w=>K_aa K x.1 x.2.1)
theorem K_19d(K:Nat):(K_vc K).Ok prog 112:=K_4x K_oa fun x w y h=>K_11q K x w y h
noncomputable def K_19i (K:Nat):List (Nat×CE):=[]
theorem K_1f(K:Nat):Env.Ok prog (tab (K_19i K)):=(Env.nil _)
noncomputable def K_198 (K:Nat):List (Nat×RE):=[(112,K_vc K),(76,K_4e K)]
theorem K_1i(K:Nat):REnv.Ok prog (tab (K_198 K)):=(REnv.cons (K_19d K) (REnv.cons (K_5z K) (REnv.nil _)))
noncomputable def K_8o (K:Nat) (rec:Sl→Int→Sl→Int→World→Option ((Sl×Unit)×World)) (m0:Sl) (n4:Int) (rows5:Sl) (i6:Int) (w:World):Option ((Sl×Unit)×World):=
 if (decide (i6<((m0.len:Nat):Int)))=true then(bnd (bldS prog 23 0 #[] w) fun s_3 w_4=>
 (m0.a).bind fun p_5=>
 if (0:Int)≤i6∧i6<((m0.len:Nat):Int) then((ldS (p_5.add ((Int.toNat i6)*1)) w_4).bind fun v_6=>
 bnd (apd prog 23 23 (.slice s_3.a s_3.len s_3.cap) (.slice v_6.a v_6.len v_6.cap) w_4) fun s_7 w_8=>
 bnd (bldS prog 67 1 #[(0,(.slice s_7.a s_7.len s_7.cap))] w_8) fun s_9 w_10=>
 bnd (apd prog 67 67 (.slice rows5.a rows5.len rows5.cap) (.slice s_9.a s_9.len s_9.cap) w_10) fun s_11 w_12=>
 rec m0 n4 s_11 (IntKind.i64.wrap (i6+1)) w_12) else none) else(some ((rows5,()),w))
noncomputable def K_4y (K:Nat) (n:Nat):Sl→Int→Sl→Int→World→Option ((Sl×Unit)×World):=iter (fun _ _ _ _ _=>none) (K_8o K) n
noncomputable def K_49 (K:Nat) (rows5:Sl) (at9:Int) (i10:Int) (w:World):Option ((Bool×Unit)×World):=
 if (decide (i10<((rows5.len:Nat):Int)))=true then(some (((decide (at9<0)),()),w)) else(some ((false,()),w))
noncomputable def K_29 (K:Nat) (rec:Int→Sl→Sl→Int→Int→Int→World→Option ((Int×Unit)×World)) (n4:Int) (rows5:Sl) (x7:Sl) (c8:Int) (at9:Int) (i10:Int) (w:World):Option ((Int×Unit)×World):=
 bnd (K_49 K rows5 at9 i10 w) fun y_19 w_20=>
 if y_19.1=true then((rows5.a).bind fun p_21=>
 if (0:Int)≤i10∧i10<((rows5.len:Nat):Int) then((ldS (p_21.add ((Int.toNat i10)*1)) w_20).bind fun v_22=>
 (v_22.a).bind fun p_23=>
 if (0:Int)≤c8∧c8<((v_22.len:Nat):Int) then((ldI .u8 (p_23.add ((Int.toNat c8)*1)) w_20).bind fun v_24=>
 if (v_24 != 0)=true then(rec n4 rows5 x7 c8 i10 (IntKind.i64.wrap (i10+1)) w_20) else(rec n4 rows5 x7 c8 at9 (IntKind.i64.wrap (i10+1)) w_20)) else none) else none) else(some ((at9,()),w_20))
noncomputable def K_1w (K:Nat) (n:Nat):Int→Sl→Sl→Int→Int→Int→World→Option ((Int×Unit)×World):=iter (fun _ _ _ _ _ _ _=>none) (K_29 K) n
noncomputable def K_8n (K:Nat) (rec:Int→Sl→Sl→Int→Int→Int→World→Option ((Unit)×World)) (n4:Int) (rows5:Sl) (x7:Sl) (c8:Int) (by11:Int) (k12:Int) (w:World):Option ((Unit)×World):=
 if (decide (k12≤n4))=true then((rows5.a).bind fun p_40=>
 if (0:Int)≤c8∧c8<((rows5.len:Nat):Int) then((rows5.a).bind fun p_41=>
 if (0:Int)≤c8∧c8<((rows5.len:Nat):Int) then((ldS (p_40.add ((Int.toNat c8)*1)) w.drew).bind fun v_42=>
 (ldS (p_41.add ((Int.toNat c8)*1)) w.drew).bind fun v_43=>
 (v_43.a).bind fun p_44=>
 if (0:Int)≤k12∧k12<((v_43.len:Nat):Int) then((ldI .u8 (p_44.add ((Int.toNat k12)*1)) w.drew).bind fun v_45=>
 (K_c K v_45 by11).bind fun r_46=>
 (v_42.a).bind fun p_47=>
 if (0:Int)≤k12∧k12<((v_42.len:Nat):Int) then((stC (p_47.add ((Int.toNat k12)*1)) (.int .u8 r_46.1) w.drew).bind fun w_48=>
 rec n4 rows5 x7 c8 by11 (IntKind.i64.wrap (k12+1)) w_48) else none) else none) else none) else none) else(some ((),w))
noncomputable def K_37 (K:Nat) (n:Nat):Int→Sl→Sl→Int→Int→Int→World→Option ((Unit)×World):=iter (fun _ _ _ _ _ _ _=>none) (K_8n K) n
noncomputable def K_ei (K:Nat) (rows5:Sl) (c8:Int) (i13:Int) (w:World):Option ((Bool×Unit)×World):=
 if (i13 == c8)=true then(some ((true,()),w)) else((rows5.a).bind fun p_51=>
 if (0:Int)≤i13∧i13<((rows5.len:Nat):Int) then((ldS (p_51.add ((Int.toNat i13)*1)) w).bind fun v_52=>
 (v_52.a).bind fun p_53=>
 if (0:Int)≤c8∧c8<((v_52.len:Nat):Int) then((ldI .u8 (p_53.add ((Int.toNat c8)*1)) w).bind fun v_54=>
 some (((v_54 == 0),()),w)) else none) else none)
noncomputable def K_8g (K:Nat) (rec:Int→Sl→Sl→Int→Int→Int→Int→World→Option ((Unit)×World)) (n4:Int) (rows5:Sl) (x7:Sl) (c8:Int) (i13:Int) (f14:Int) (k15:Int) (w:World):Option ((Unit)×World):=
 if (decide (k15≤n4))=true then((rows5.a).bind fun p_61=>
 if (0:Int)≤i13∧i13<((rows5.len:Nat):Int) then((rows5.a).bind fun p_62=>
 if (0:Int)≤i13∧i13<((rows5.len:Nat):Int) then((rows5.a).bind fun p_63=>
 if (0:Int)≤c8∧c8<((rows5.len:Nat):Int) then((ldS (p_61.add ((Int.toNat i13)*1)) w.drew).bind fun v_64=>
 (ldS (p_62.add ((Int.toNat i13)*1)) w.drew).bind fun v_65=>
 (v_65.a).bind fun p_66=>
 if (0:Int)≤k15∧k15<((v_65.len:Nat):Int) then((ldI .u8 (p_66.add ((Int.toNat k15)*1)) w.drew).bind fun v_67=>
 (ldS (p_63.add ((Int.toNat c8)*1)) w.drew).bind fun v_68=>
 (v_68.a).bind fun p_69=>
 if (0:Int)≤k15∧k15<((v_68.len:Nat):Int) then((ldI .u8 (p_69.add ((Int.toNat k15)*1)) w.drew).bind fun v_70=>
 (K_c K f14 v_70).bind fun r_71=>
 (v_64.a).bind fun p_72=>
 if (0:Int)≤k15∧k15<((v_64.len:Nat):Int) then((stC (p_72.add ((Int.toNat k15)*1)) (.int .u8 (bits .xor .u8 v_67 r_71.1)) w.drew).bind fun w_73=>
 rec n4 rows5 x7 c8 i13 f14 (IntKind.i64.wrap (k15+1)) w_73) else none) else none) else none) else none) else none) else none) else(some ((),w))
noncomputable def K_4v (K:Nat) (n:Nat):Int→Sl→Sl→Int→Int→Int→Int→World→Option ((Unit)×World):=iter (fun _ _ _ _ _ _ _ _=>none) (K_8g K) n
noncomputable def K_8s (K:Nat) (rec:Int→Sl→Sl→Int→Int→World→Option ((Unit)×World)) (n4:Int) (rows5:Sl) (x7:Sl) (c8:Int) (i13:Int) (w:World):Option ((Unit)×World):=
 if (decide (i13<((rows5.len:Nat):Int)))=true then(bnd (K_ei K rows5 c8 i13 w) fun y_55 w_56=>
 if y_55.1=true then(rec n4 rows5 x7 c8 (IntKind.i64.wrap (i13+1)) w_56) else((rows5.a).bind fun p_57=>
 if (0:Int)≤i13∧i13<((rows5.len:Nat):Int) then((ldS (p_57.add ((Int.toNat i13)*1)) w_56).bind fun v_58=>
 (v_58.a).bind fun p_59=>
 if (0:Int)≤c8∧c8<((v_58.len:Nat):Int) then((ldI .u8 (p_59.add ((Int.toNat c8)*1)) w_56).bind fun v_60=>
 bnd (K_4v K K n4 rows5 x7 c8 i13 v_60 0 w_56) fun y_74 w_75=>
 rec n4 rows5 x7 c8 (IntKind.i64.wrap (i13+1)) w_75) else none) else none)) else(some ((),w))
noncomputable def K_3d (K:Nat) (n:Nat):Int→Sl→Sl→Int→Int→World→Option ((Unit)×World):=iter (fun _ _ _ _ _ _=>none) (K_8s K) n
noncomputable def K_8y (K:Nat) (rec:Int→Sl→Sl→Int→World→Option ((Out (Sl×Unit) (Sl×Bool×Unit))×World)) (n4:Int) (rows5:Sl) (x7:Sl) (c8:Int) (w:World):Option ((Out (Sl×Unit) (Sl×Bool×Unit))×World):=
 if (decide (c8<n4))=true then(bnd (bldS prog 23 1 #[(0,(.int .u8 0))] w) fun s_15 w_16=>
 bnd (apd prog 23 23 (.slice x7.a x7.len x7.cap) (.slice s_15.a s_15.len s_15.cap) w_16) fun s_17 w_18=>
 bnd (K_1w K K n4 rows5 s_17 c8 (-1) c8 w_18) fun y_25 w_26=>
 if (decide (y_25.1<0))=true then(some (.ret (⟨none,0,0⟩,false,()),w_26)) else((rows5.a).bind fun p_27=>
 if (0:Int)≤y_25.1∧y_25.1<((rows5.len:Nat):Int) then((rows5.a).bind fun p_28=>
 if (0:Int)≤c8∧c8<((rows5.len:Nat):Int) then((ldS (p_27.add ((Int.toNat y_25.1)*1)) w_26.drew).bind fun v_29=>
 (ldS (p_28.add ((Int.toNat c8)*1)) w_26.drew).bind fun v_30=>
 (rows5.a).bind fun p_31=>
 if (0:Int)≤c8∧c8<((rows5.len:Nat):Int) then((stC (p_31.add ((Int.toNat c8)*1)) (.slice v_29.a v_29.len v_29.cap) w_26.drew).bind fun w_32=>
 (rows5.a).bind fun p_33=>
 if (0:Int)≤y_25.1∧y_25.1<((rows5.len:Nat):Int) then((stC (p_33.add ((Int.toNat y_25.1)*1)) (.slice v_30.a v_30.len v_30.cap) w_32).bind fun w_34=>
 (rows5.a).bind fun p_35=>
 if (0:Int)≤c8∧c8<((rows5.len:Nat):Int) then((ldS (p_35.add ((Int.toNat c8)*1)) w_34).bind fun v_36=>
 (v_36.a).bind fun p_37=>
 if (0:Int)≤c8∧c8<((v_36.len:Nat):Int) then((ldI .u8 (p_37.add ((Int.toNat c8)*1)) w_34).bind fun v_38=>
 (K_aa K 1 v_38).bind fun r_39=>
 bnd (K_37 K K n4 rows5 s_17 c8 r_39.1 0 w_34) fun y_49 w_50=>
 bnd (K_3d K K n4 rows5 s_17 c8 0 w_50) fun y_76 w_77=>
 rec n4 rows5 s_17 (IntKind.i64.wrap (c8+1)) w_77) else none) else none) else none) else none) else none) else none)) else(some (.norm (x7,()),w))
noncomputable def K_w (K:Nat) (n:Nat):Int→Sl→Sl→Int→World→Option ((Out (Sl×Unit) (Sl×Bool×Unit))×World):=iter (fun _ _ _ _ _=>none) (K_8y K) n
noncomputable def K_8w (K:Nat) (rec:Int→Sl→Sl→Int→World→Option ((Out (Unit) (Sl×Bool×Unit))×World)) (n4:Int) (rows5:Sl) (x7:Sl) (i16:Int) (w:World):Option ((Out (Unit) (Sl×Bool×Unit))×World):=
 if (decide (i16<((rows5.len:Nat):Int)))=true then((rows5.a).bind fun p_81=>
 if (0:Int)≤i16∧i16<((rows5.len:Nat):Int) then((ldS (p_81.add ((Int.toNat i16)*1)) w).bind fun v_82=>
 (v_82.a).bind fun p_83=>
 if (0:Int)≤n4∧n4<((v_82.len:Nat):Int) then((ldI .u8 (p_83.add ((Int.toNat n4)*1)) w).bind fun v_84=>
 if (v_84 != 0)=true then(some (.ret (⟨none,0,0⟩,false,()),w)) else(rec n4 rows5 x7 (IntKind.i64.wrap (i16+1)) w)) else none) else none) else(some (.norm (),w))
noncomputable def K_4p (K:Nat) (n:Nat):Int→Sl→Sl→Int→World→Option ((Out (Unit) (Sl×Bool×Unit))×World):=iter (fun _ _ _ _ _=>none) (K_8w K) n
noncomputable def K_93 (K:Nat) (rec:Int→Sl→Sl→Int→World→Option ((Unit)×World)) (n4:Int) (rows5:Sl) (x7:Sl) (c17:Int) (w:World):Option ((Unit)×World):=
 if (decide (c17<n4))=true then((rows5.a).bind fun p_88=>
 if (0:Int)≤c17∧c17<((rows5.len:Nat):Int) then((ldS (p_88.add ((Int.toNat c17)*1)) w).bind fun v_89=>
 (v_89.a).bind fun p_90=>
 if (0:Int)≤n4∧n4<((v_89.len:Nat):Int) then((ldI .u8 (p_90.add ((Int.toNat n4)*1)) w).bind fun v_91=>
 (x7.a).bind fun p_92=>
 if (0:Int)≤c17∧c17<((x7.len:Nat):Int) then((stC (p_92.add ((Int.toNat c17)*1)) (.int .u8 v_91) w).bind fun w_93=>
 rec n4 rows5 x7 (IntKind.i64.wrap (c17+1)) w_93) else none) else none) else none) else(some ((),w))
noncomputable def K_38 (K:Nat) (n:Nat):Int→Sl→Sl→Int→World→Option ((Unit)×World):=iter (fun _ _ _ _ _=>none) (K_93 K) n
noncomputable def K_81 (K:Nat) (m0:Sl) (w:World):Option ((Sl×Bool×Unit)×World):=
 if (((m0.len:Nat):Int) == 0)=true then(some ((⟨none,0,0⟩,true,()),w)) else((m0.a).bind fun p_1=>
 if (0:Int)≤0∧0<((m0.len:Nat):Int) then((ldS (p_1.add (0*1)) w).bind fun v_2=>
 bnd (K_4y K K m0 (IntKind.i64.wrap (((v_2.len:Nat):Int) - 1)) ⟨none,0,0⟩ 0 w) fun y_13 w_14=>
 bnd (K_w K K (IntKind.i64.wrap (((v_2.len:Nat):Int) - 1)) y_13.1 ⟨none,0,0⟩ 0 w_14) fun y_78 w_79=>
 (match y_78 with
 | .norm z_80n=>(bnd (K_4p K K (IntKind.i64.wrap (((v_2.len:Nat):Int) - 1)) y_13.1 z_80n.1 (IntKind.i64.wrap (((v_2.len:Nat):Int) - 1)) w_79) fun y_85 w_86=>
 (match y_85 with
 | .norm z_87n=>(bnd (K_38 K K (IntKind.i64.wrap (((v_2.len:Nat):Int) - 1)) y_13.1 z_80n.1 0 w_86) fun y_94 w_95=>
 some ((z_80n.1,true,()),w_95))
 | .ret z_87r=>(some ((z_87r.1,z_87r.2.1,()),w_86))))
 | .ret z_80r=>(some ((z_80r.1,z_80r.2.1,()),w_79)))) else none)
theorem K_zm(K:Nat)(n:Nat):StmtNOk prog [(0,.sl),(4,.int .i64),(5,.sl),(6,.int .i64)] [(5,.sl)] [(5,7),(26,41)] ((fun n x w=>K_4y K n x.1 x.2.1 x.2.2.1 x.2.2.2.1 w) n) (.block 0 (.loop (cd (bodyOf f84) [1,1,1,1,0,1,0,0]))):=
  K_4 (O:=tabL []) (root:=(bodyOf f84)) (π:=[1,1,1,1,0,1,0,0]) (Li:=[(0,.sl),(4,.int .i64),(5,.sl),(6,.int .i64)]) (Lo:=[(5,.sl)]) (S:=(fun n x w=>K_4y K n x.1 x.2.1 x.2.2.1 x.2.2.2.1 w)) (K_1f K) (K_1i K) rfl (Orc.nil _ _ _) (by kernel_rfl) (fun _ _=>by kernel_rfl) (fun _ _ _=>by kernel_rfl) n
noncomputable def K_m0 (K:Nat):SE:=stmtN [(0,.sl),(4,.int .i64),(5,.sl),(6,.int .i64)] [(5,.sl)] [(5,7),(26,41)] (fun x w=>K_4y K K x.1 x.2.1 x.2.2.1 x.2.2.2.1 w)
theorem K_us(K:Nat)(R:Rg)(h:subRB [(5,7),(26,41)] R=true):(K_m0 K).Ok prog R (.block 0 (.loop (cd (bodyOf f84) [1,1,1,1,0,1,0,0]))):=K_2 (K_zm K K) (K_0 h)
theorem K_108(K:Nat):StmtNOk prog [(5,.sl),(9,.int .i64),(10,.int .i64)] [(57,.bool)] [(50,58)] (fun x w=>K_49 K x.1 x.2.1 x.2.2.1 w) (cd (bodyOf f84) [1,1,1,1,1,1,0,1,0,0,1,0,0,1,1,0,1,0,0,0,0]):=
  K_g (O:=tabL []) (root:=(bodyOf f84)) (π:=[1,1,1,1,1,1,0,1,0,0,1,0,0,1,1,0,1,0,0,0,0]) (K_1f K) (K_1i K) rfl (Orc.nil _ _ _) (by kernel_rfl) (fun _ _=>by kernel_rfl)
noncomputable def K_ap (K:Nat):SE:=stmtN [(5,.sl),(9,.int .i64),(10,.int .i64)] [(57,.bool)] [(50,58)] (fun x w=>K_49 K x.1 x.2.1 x.2.2.1 w)
theorem K_c6(K:Nat)(R:Rg)(h:subRB [(50,58)] R=true):(K_ap K).Ok prog R (cd (bodyOf f84) [1,1,1,1,1,1,0,1,0,0,1,0,0,1,1,0,1,0,0,0,0]):=K_2 (K_108 K) (K_0 h)
theorem K_10h(K:Nat)(n:Nat):StmtNOk prog [(4,.int .i64),(5,.sl),(7,.sl),(8,.int .i64),(9,.int .i64),(10,.int .i64)] [(9,.int .i64)] [(9,11),(50,69)] ((fun n x w=>K_1w K n x.1 x.2.1 x.2.2.1 x.2.2.2.1 x.2.2.2.2.1 x.2.2.2.2.2.1 w) n) (.block 4 (.loop (cd (bodyOf f84) [1,1,1,1,1,1,0,1,0,0,1,0,0,1,1,0,1,0,0]))):=
  K_4 (O:=tabL [([1,1,1,1,1,1,0,1,0,0,1,0,0,1,1,0,1,0,0,0,0],K_ap K)]) (root:=(bodyOf f84)) (π:=[1,1,1,1,1,1,0,1,0,0,1,0,0,1,1,0,1,0,0]) (Li:=[(4,.int .i64),(5,.sl),(7,.sl),(8,.int .i64),(9,.int .i64),(10,.int .i64)]) (Lo:=[(9,.int .i64)]) (S:=(fun n x w=>K_1w K n x.1 x.2.1 x.2.2.1 x.2.2.2.1 x.2.2.2.2.1 x.2.2.2.2.2.1 w)) (K_1f K) (K_1i K) rfl (Orc.cons (by kernel_rfl) (K_c6 K [(9,11),(50,69)] (by kernel_rfl)) (Orc.nil _ _ _)) (by kernel_rfl) (fun _ _=>by kernel_rfl) (fun _ _ _=>by kernel_rfl) n
noncomputable def K_fg (K:Nat):SE:=stmtN [(4,.int .i64),(5,.sl),(7,.sl),(8,.int .i64),(9,.int .i64),(10,.int .i64)] [(9,.int .i64)] [(9,11),(50,69)] (fun x w=>K_1w K K x.1 x.2.1 x.2.2.1 x.2.2.2.1 x.2.2.2.2.1 x.2.2.2.2.2.1 w)
theorem K_hv(K:Nat)(R:Rg)(h:subRB [(9,11),(50,69)] R=true):(K_fg K).Ok prog R (.block 4 (.loop (cd (bodyOf f84) [1,1,1,1,1,1,0,1,0,0,1,0,0,1,1,0,1,0,0]))):=K_2 (K_10h K K) (K_0 h)
theorem K_zk(K:Nat)(n:Nat):StmtNOk prog [(4,.int .i64),(5,.sl),(7,.sl),(8,.int .i64),(11,.int .u8),(12,.int .i64)] [] [(12,13),(93,113)] ((fun n x w=>K_37 K n x.1 x.2.1 x.2.2.1 x.2.2.2.1 x.2.2.2.2.1 x.2.2.2.2.2.1 w) n) (.block 6 (.loop (cd (bodyOf f84) [1,1,1,1,1,1,0,1,0,0,1,0,0,1,1,1,1,1,1,0,1,0,0]))):=
  K_4 (O:=tabL []) (root:=(bodyOf f84)) (π:=[1,1,1,1,1,1,0,1,0,0,1,0,0,1,1,1,1,1,1,0,1,0,0]) (Li:=[(4,.int .i64),(5,.sl),(7,.sl),(8,.int .i64),(11,.int .u8),(12,.int .i64)]) (Lo:=[]) (S:=(fun n x w=>K_37 K n x.1 x.2.1 x.2.2.1 x.2.2.2.1 x.2.2.2.2.1 x.2.2.2.2.2.1 w)) (K_1f K) (K_1i K) rfl (Orc.nil _ _ _) (by kernel_rfl) (fun _ _=>by kernel_rfl) (fun _ _ _=>by kernel_rfl) n
noncomputable def K_fd (K:Nat):SE:=stmtN [(4,.int .i64),(5,.sl),(7,.sl),(8,.int .i64),(11,.int .u8),(12,.int .i64)] [] [(12,13),(93,113)] (fun x w=>K_37 K K x.1 x.2.1 x.2.2.1 x.2.2.2.1 x.2.2.2.2.1 x.2.2.2.2.2.1 w)
theorem K_i9(K:Nat)(R:Rg)(h:subRB [(12,13),(93,113)] R=true):(K_fd K).Ok prog R (.block 6 (.loop (cd (bodyOf f84) [1,1,1,1,1,1,0,1,0,0,1,0,0,1,1,1,1,1,1,0,1,0,0]))):=K_2 (K_zk K K) (K_0 h)
theorem K_zw(K:Nat):StmtNOk prog [(5,.sl),(8,.int .i64),(13,.int .i64)] [(131,.bool)] [(119,132)] (fun x w=>K_ei K x.1 x.2.1 x.2.2.1 w) (cd (bodyOf f84) [1,1,1,1,1,1,0,1,0,0,1,0,0,1,1,1,1,1,1,1,1,0,0,1,0,0,0,0]):=
  K_g (O:=tabL []) (root:=(bodyOf f84)) (π:=[1,1,1,1,1,1,0,1,0,0,1,0,0,1,1,1,1,1,1,1,1,0,0,1,0,0,0,0]) (K_1f K) (K_1i K) rfl (Orc.nil _ _ _) (by kernel_rfl) (fun _ _=>by kernel_rfl)
noncomputable def K_av (K:Nat):SE:=stmtN [(5,.sl),(8,.int .i64),(13,.int .i64)] [(131,.bool)] [(119,132)] (fun x w=>K_ei K x.1 x.2.1 x.2.2.1 w)
theorem K_c3(K:Nat)(R:Rg)(h:subRB [(119,132)] R=true):(K_av K).Ok prog R (cd (bodyOf f84) [1,1,1,1,1,1,0,1,0,0,1,0,0,1,1,1,1,1,1,1,1,0,0,1,0,0,0,0]):=K_2 (K_zw K) (K_0 h)
theorem K_10s(K:Nat)(n:Nat):StmtNOk prog [(4,.int .i64),(5,.sl),(7,.sl),(8,.int .i64),(13,.int .i64),(14,.int .u8),(15,.int .i64)] [] [(15,16),(139,167)] ((fun n x w=>K_4v K n x.1 x.2.1 x.2.2.1 x.2.2.2.1 x.2.2.2.2.1 x.2.2.2.2.2.1 x.2.2.2.2.2.2.1 w) n) (.block 10 (.loop (cd (bodyOf f84) [1,1,1,1,1,1,0,1,0,0,1,0,0,1,1,1,1,1,1,1,1,0,0,1,0,0,1,1,1,0,0]))):=
  K_4 (O:=tabL []) (root:=(bodyOf f84)) (π:=[1,1,1,1,1,1,0,1,0,0,1,0,0,1,1,1,1,1,1,1,1,0,0,1,0,0,1,1,1,0,0]) (Li:=[(4,.int .i64),(5,.sl),(7,.sl),(8,.int .i64),(13,.int .i64),(14,.int .u8),(15,.int .i64)]) (Lo:=[]) (S:=(fun n x w=>K_4v K n x.1 x.2.1 x.2.2.1 x.2.2.2.1 x.2.2.2.2.1 x.2.2.2.2.2.1 x.2.2.2.2.2.2.1 w)) (K_1f K) (K_1i K) rfl (Orc.nil _ _ _) (by kernel_rfl) (fun _ _=>by kernel_rfl) (fun _ _ _=>by kernel_rfl) n
noncomputable def K_au (K:Nat):SE:=stmtN [(4,.int .i64),(5,.sl),(7,.sl),(8,.int .i64),(13,.int .i64),(14,.int .u8),(15,.int .i64)] [] [(15,16),(139,167)] (fun x w=>K_4v K K x.1 x.2.1 x.2.2.1 x.2.2.2.1 x.2.2.2.2.1 x.2.2.2.2.2.1 x.2.2.2.2.2.2.1 w)
theorem K_bu(K:Nat)(R:Rg)(h:subRB [(15,16),(139,167)] R=true):(K_au K).Ok prog R (.block 10 (.loop (cd (bodyOf f84) [1,1,1,1,1,1,0,1,0,0,1,0,0,1,1,1,1,1,1,1,1,0,0,1,0,0,1,1,1,0,0]))):=K_2 (K_10s K K) (K_0 h)
theorem K_10f(K:Nat)(n:Nat):StmtNOk prog [(4,.int .i64),(5,.sl),(7,.sl),(8,.int .i64),(13,.int .i64)] [] [(13,16),(113,167)] ((fun n x w=>K_3d K n x.1 x.2.1 x.2.2.1 x.2.2.2.1 x.2.2.2.2.1 w) n) (.block 8 (.loop (cd (bodyOf f84) [1,1,1,1,1,1,0,1,0,0,1,0,0,1,1,1,1,1,1,1,1,0,0]))):=
  K_4 (O:=tabL [([1,1,1,1,1,1,0,1,0,0,1,0,0,1,1,1,1,1,1,1,1,0,0,1,0,0,0,0],K_av K),([1,1,1,1,1,1,0,1,0,0,1,0,0,1,1,1,1,1,1,1,1,0,0,1,0,0,1,1,1],K_au K)]) (root:=(bodyOf f84)) (π:=[1,1,1,1,1,1,0,1,0,0,1,0,0,1,1,1,1,1,1,1,1,0,0]) (Li:=[(4,.int .i64),(5,.sl),(7,.sl),(8,.int .i64),(13,.int .i64)]) (Lo:=[]) (S:=(fun n x w=>K_3d K n x.1 x.2.1 x.2.2.1 x.2.2.2.1 x.2.2.2.2.1 w)) (K_1f K) (K_1i K) rfl (Orc.cons (by kernel_rfl) (K_c3 K [(13,16),(113,167)] (by kernel_rfl)) (Orc.cons (by kernel_rfl) (K_bu K [(13,16),(113,167)] (by kernel_rfl)) (Orc.nil _ _ _))) (by kernel_rfl) (fun _ _=>by kernel_rfl) (fun _ _ _=>by kernel_rfl) n
noncomputable def K_fp (K:Nat):SE:=stmtN [(4,.int .i64),(5,.sl),(7,.sl),(8,.int .i64),(13,.int .i64)] [] [(13,16),(113,167)] (fun x w=>K_3d K K x.1 x.2.1 x.2.2.1 x.2.2.2.1 x.2.2.2.2.1 w)
theorem K_hn(K:Nat)(R:Rg)(h:subRB [(13,16),(113,167)] R=true):(K_fp K).Ok prog R (.block 8 (.loop (cd (bodyOf f84) [1,1,1,1,1,1,0,1,0,0,1,0,0,1,1,1,1,1,1,1,1,0,0]))):=K_2 (K_10f K K) (K_0 h)
theorem K_10k(K:Nat)(n:Nat):StmtOk prog [(4,.int .i64),(5,.sl),(7,.sl),(8,.int .i64)] [(7,.sl)] [(2,.sl),(3,.bool)] [(2,4),(7,16),(41,167)] ((fun n x w=>K_w K n x.1 x.2.1 x.2.2.1 x.2.2.2.1 w) n) (.block 2 (.loop (cd (bodyOf f84) [1,1,1,1,1,1,0,1,0,0]))):=
  K_26 (O:=tabL [([1,1,1,1,1,1,0,1,0,0,1,0,0,1,1,0,1],K_fg K),([1,1,1,1,1,1,0,1,0,0,1,0,0,1,1,0,1,0,0,0,0],K_ap K),([1,1,1,1,1,1,0,1,0,0,1,0,0,1,1,1,1,1,1,0,1],K_fd K),([1,1,1,1,1,1,0,1,0,0,1,0,0,1,1,1,1,1,1,1,1],K_fp K),([1,1,1,1,1,1,0,1,0,0,1,0,0,1,1,1,1,1,1,1,1,0,0,1,0,0,0,0],K_av K),([1,1,1,1,1,1,0,1,0,0,1,0,0,1,1,1,1,1,1,1,1,0,0,1,0,0,1,1,1],K_au K)]) (root:=(bodyOf f84)) (π:=[1,1,1,1,1,1,0,1,0,0]) (Li:=[(4,.int .i64),(5,.sl),(7,.sl),(8,.int .i64)]) (Lo:=[(7,.sl)]) (Lr:=[(2,.sl),(3,.bool)]) (S:=(fun n x w=>K_w K n x.1 x.2.1 x.2.2.1 x.2.2.2.1 w)) (K_1f K) (K_1i K) rfl (Orc.cons (by kernel_rfl) (K_hv K [(2,4),(7,16),(41,167)] (by kernel_rfl)) (Orc.cons (by kernel_rfl) (K_c6 K [(2,4),(7,16),(41,167)] (by kernel_rfl)) (Orc.cons (by kernel_rfl) (K_i9 K [(2,4),(7,16),(41,167)] (by kernel_rfl)) (Orc.cons (by kernel_rfl) (K_hn K [(2,4),(7,16),(41,167)] (by kernel_rfl)) (Orc.cons (by kernel_rfl) (K_c3 K [(2,4),(7,16),(41,167)] (by kernel_rfl)) (Orc.cons (by kernel_rfl) (K_bu K [(2,4),(7,16),(41,167)] (by kernel_rfl)) (Orc.nil _ _ _))))))) (by kernel_rfl) (fun _ _=>by kernel_rfl) (fun _ _ _=>by kernel_rfl) n
noncomputable def K_me (K:Nat):SE:=stmt [(4,.int .i64),(5,.sl),(7,.sl),(8,.int .i64)] [(7,.sl)] [(2,.sl),(3,.bool)] [(2,4),(7,16),(41,167)] (fun x w=>K_w K K x.1 x.2.1 x.2.2.1 x.2.2.2.1 w)
theorem K_v0(K:Nat)(R:Rg)(h:subRB [(2,4),(7,16),(41,167)] R=true):(K_me K).Ok prog R (.block 2 (.loop (cd (bodyOf f84) [1,1,1,1,1,1,0,1,0,0]))):=K_1o (K_10k K K) (K_0 h)
theorem K_10x(K:Nat)(n:Nat):StmtOk prog [(4,.int .i64),(5,.sl),(7,.sl),(16,.int .i64)] [] [(2,.sl),(3,.bool)] [(2,4),(16,17),(168,182)] ((fun n x w=>K_4p K n x.1 x.2.1 x.2.2.1 x.2.2.2.1 w) n) (.block 12 (.loop (cd (bodyOf f84) [1,1,1,1,1,1,1,0,1,0,0]))):=
  K_26 (O:=tabL []) (root:=(bodyOf f84)) (π:=[1,1,1,1,1,1,1,0,1,0,0]) (Li:=[(4,.int .i64),(5,.sl),(7,.sl),(16,.int .i64)]) (Lo:=[]) (Lr:=[(2,.sl),(3,.bool)]) (S:=(fun n x w=>K_4p K n x.1 x.2.1 x.2.2.1 x.2.2.2.1 w)) (K_1f K) (K_1i K) rfl (Orc.nil _ _ _) (by kernel_rfl) (fun _ _=>by kernel_rfl) (fun _ _ _=>by kernel_rfl) n
noncomputable def K_lt (K:Nat):SE:=stmt [(4,.int .i64),(5,.sl),(7,.sl),(16,.int .i64)] [] [(2,.sl),(3,.bool)] [(2,4),(16,17),(168,182)] (fun x w=>K_4p K K x.1 x.2.1 x.2.2.1 x.2.2.2.1 w)
theorem K_u5(K:Nat)(R:Rg)(h:subRB [(2,4),(16,17),(168,182)] R=true):(K_lt K).Ok prog R (.block 12 (.loop (cd (bodyOf f84) [1,1,1,1,1,1,1,0,1,0,0]))):=K_1o (K_10x K K) (K_0 h)
theorem K_10q(K:Nat)(n:Nat):StmtNOk prog [(4,.int .i64),(5,.sl),(7,.sl),(17,.int .i64)] [] [(17,18),(182,197)] ((fun n x w=>K_38 K n x.1 x.2.1 x.2.2.1 x.2.2.2.1 w) n) (.block 14 (.loop (cd (bodyOf f84) [1,1,1,1,1,1,1,1,0,1,0,0]))):=
  K_4 (O:=tabL []) (root:=(bodyOf f84)) (π:=[1,1,1,1,1,1,1,1,0,1,0,0]) (Li:=[(4,.int .i64),(5,.sl),(7,.sl),(17,.int .i64)]) (Lo:=[]) (S:=(fun n x w=>K_38 K n x.1 x.2.1 x.2.2.1 x.2.2.2.1 w)) (K_1f K) (K_1i K) rfl (Orc.nil _ _ _) (by kernel_rfl) (fun _ _=>by kernel_rfl) (fun _ _ _=>by kernel_rfl) n
noncomputable def K_lu (K:Nat):SE:=stmtN [(4,.int .i64),(5,.sl),(7,.sl),(17,.int .i64)] [] [(17,18),(182,197)] (fun x w=>K_38 K K x.1 x.2.1 x.2.2.1 x.2.2.2.1 w)
theorem K_v6(K:Nat)(R:Rg)(h:subRB [(17,18),(182,197)] R=true):(K_lu K).Ok prog R (.block 14 (.loop (cd (bodyOf f84) [1,1,1,1,1,1,1,1,0,1,0,0]))):=K_2 (K_10q K K) (K_0 h)
theorem K_mi:FunFacts prog 84 f84 (bodyOf f84) [(0,.sl)] [(0,198)]:=⟨func84,by kernel_rfl,by kernel_rfl,by kernel_rfl,by kernel_rfl,by kernel_rfl⟩
theorem K_10j(K:Nat)(x:TT [(0,.sl)])(w:World)(y:TR [.sl,.bool])(w2:World)(h:K_81 K x.1 w=some (y,w2)):Calls prog 84 (encA [(0,.sl)] x).toArray w (fun e w3=>e= .returned (resV (encR [.sl,.bool] y))∧w3=w2):=
  K_b (O:=tabL [([1,1,1,1,0,1],K_m0 K),([1,1,1,1,1,1,0,1],K_me K),([1,1,1,1,1,1,0,1,0,0,1,0,0,1,1,0,1],K_fg K),([1,1,1,1,1,1,0,1,0,0,1,0,0,1,1,0,1,0,0,0,0],K_ap K),([1,1,1,1,1,1,0,1,0,0,1,0,0,1,1,1,1,1,1,0,1],K_fd K),([1,1,1,1,1,1,0,1,0,0,1,0,0,1,1,1,1,1,1,1,1],K_fp K),([1,1,1,1,1,1,0,1,0,0,1,0,0,1,1,1,1,1,1,1,1,0,0,1,0,0,0,0],K_av K),([1,1,1,1,1,1,0,1,0,0,1,0,0,1,1,1,1,1,1,1,1,0,0,1,0,0,1,1,1],K_au K),([1,1,1,1,1,1,1,0,1],K_lt K),([1,1,1,1,1,1,1,1,0,1],K_lu K)]) (Lp:=[(0,.sl)]) (Rt:=[.sl,.bool]) (S:=(fun x w=>K_81 K x.1 w)) (K_1f K) (K_1i K) rfl K_mi (Orc.cons (by kernel_rfl) (K_us K [(0,198)] (by kernel_rfl)) (Orc.cons (by kernel_rfl) (K_v0 K [(0,198)] (by kernel_rfl)) (Orc.cons (by kernel_rfl) (K_hv K [(0,198)] (by kernel_rfl)) (Orc.cons (by kernel_rfl) (K_c6 K [(0,198)] (by kernel_rfl)) (Orc.cons (by kernel_rfl) (K_i9 K [(0,198)] (by kernel_rfl)) (Orc.cons (by kernel_rfl) (K_hn K [(0,198)] (by kernel_rfl)) (Orc.cons (by kernel_rfl) (K_c3 K [(0,198)] (by kernel_rfl)) (Orc.cons (by kernel_rfl) (K_bu K [(0,198)] (by kernel_rfl)) (Orc.cons (by kernel_rfl) (K_u5 K [(0,198)] (by kernel_rfl)) (Orc.cons (by kernel_rfl) (K_v6 K [(0,198)] (by kernel_rfl)) (Orc.nil _ _ _))))))))))) (fun _ _=>by kernel_rfl) x w y w2 h
noncomputable def K_jr (K:Nat):CE:=funE [(0,.sl)] [.sl,.bool] (fun x w=>K_81 K x.1 w)
theorem K_sq(K:Nat):(K_jr K).Ok prog 84:=K_8 K_mi fun x w y w2 h=>K_10j K x w y w2 h
noncomputable def K_18c (K:Nat):List (Nat×CE):=[(103,K_lg K),(104,K_dh K),(84,K_jr K)]
theorem K_q1(K:Nat):Env.Ok prog (tab (K_18c K)):=(Env.cons (K_vh K) (Env.cons (K_ia K) (Env.cons (K_sq K) (Env.nil _))))
noncomputable def K_192 (K:Nat):List (Nat×RE):=[]
theorem K_q0(K:Nat):REnv.Ok prog (tab (K_192 K)):=(REnv.nil _)
noncomputable def K_91 (K:Nat) (rec:Sl→Addr→Sl→Sl→Int→World→Option ((Sl×Unit)×World)) (b0:Sl) (s4:Addr) (p5:Sl) (m6:Sl) (j7:Int) (w:World):Option ((Sl×Unit)×World):=
 if (decide (j7<4))=true then((p5.a).bind fun p_16=>
 if (0:Int)≤(IntKind.i64.wrap (3*j7))∧(IntKind.i64.wrap (3*j7))<((p5.len:Nat):Int) then((p5.a).bind fun p_17=>
 if (0:Int)≤(IntKind.i64.wrap (2*j7))∧(IntKind.i64.wrap (2*j7))<((p5.len:Nat):Int) then((p5.a).bind fun p_18=>
 if (0:Int)≤j7∧j7<((p5.len:Nat):Int) then(if (0:Int)≤j7∧j7<((4:Nat):Int) then((ldI .u8 (p_16.add ((Int.toNat (IntKind.i64.wrap (3*j7)))*1)) w.drew).bind fun v_19=>
 (ldI .u8 (p_17.add ((Int.toNat (IntKind.i64.wrap (2*j7)))*1)) w.drew).bind fun v_20=>
 (ldI .u8 (p_18.add ((Int.toNat j7)*1)) w.drew).bind fun v_21=>
 (ldI .u8 (s4.add ((Int.toNat j7)*1)) w.drew).bind fun v_22=>
 bnd (bldS prog 23 5 #[(0,(.int .u8 v_19)),(1,(.int .u8 v_20)),(2,(.int .u8 v_21)),(3,(.int .u8 1)),(4,(.int .u8 v_22))] w.drew) fun s_23 w_24=>
 bnd (bldS prog 67 1 #[(0,(.slice s_23.a s_23.len s_23.cap))] w_24) fun s_25 w_26=>
 bnd (apd prog 67 67 (.slice m6.a m6.len m6.cap) (.slice s_25.a s_25.len s_25.cap) w_26) fun s_27 w_28=>
 rec b0 s4 p5 s_27 (IntKind.i64.wrap (j7+1)) w_28) else none) else none) else none) else none) else(some ((m6,()),w))
noncomputable def K_4o (K:Nat) (n:Nat):Sl→Addr→Sl→Sl→Int→World→Option ((Sl×Unit)×World):=iter (fun _ _ _ _ _ _=>none) (K_91 K) n
noncomputable def K_ae (K:Nat) (b0:Sl) (w:World):Option ((Sl×Unit)×World):=
 bnd (bldS prog 23 0 #[] w) fun s_1 w_2=>
 bnd (apd prog 23 23 (.slice s_1.a s_1.len s_1.cap) (.slice b0.a b0.len b0.cap) w_2) fun s_3 w_4=>
 bnd (bldS prog 23 4 #[(0,(.int .u8 0)),(1,(.int .u8 0)),(2,(.int .u8 0)),(3,(.int .u8 0))] w_4) fun s_5 w_6=>
 bnd (apd prog 23 23 (.slice s_3.a s_3.len s_3.cap) (.slice s_5.a s_5.len s_5.cap) w_6) fun s_7 w_8=>
 bnd (K_c0 K s_7 w_8) fun r_9 w_10=>
 bnd (newB z153 153 w_10) fun s_11 w_12=>
 if (r_9.1).size=4 then((stA s_11 r_9.1 w_12).bind fun w_13=>
 bnd (K_2y K 255 w_13) fun r_14 w_15=>
 bnd (K_4o K K b0 s_11 r_14.1 ⟨none,0,0⟩ 0 w_15) fun y_29 w_30=>
 bnd (K_81 K y_29.1 w_30) fun r_31 w_32=>
 bnd (bldS prog 23 0 #[] w_32) fun s_33 w_34=>
 bnd (apd prog 23 23 (.slice s_33.a s_33.len s_33.cap) (.slice b0.a b0.len b0.cap) w_34) fun s_35 w_36=>
 bnd (apd prog 23 23 (.slice s_35.a s_35.len s_35.cap) (.slice r_31.1.a r_31.1.len r_31.1.cap) w_36) fun s_37 w_38=>
 some ((s_37,()),w_38)) else none
theorem K_zn(K:Nat)(n:Nat):StmtNOk prog [(0,.sl),(4,.addr),(5,.sl),(6,.sl),(7,.int .i64)] [(6,.sl)] [(6,8),(18,43)] ((fun n x w=>K_4o K n x.1 x.2.1 x.2.2.1 x.2.2.2.1 x.2.2.2.2.1 w) n) (.block 0 (.loop (cd (bodyOf f78) [1,1,1,1,1,0,1,0,0]))):=
  K_4 (O:=tabL []) (root:=(bodyOf f78)) (π:=[1,1,1,1,1,0,1,0,0]) (Li:=[(0,.sl),(4,.addr),(5,.sl),(6,.sl),(7,.int .i64)]) (Lo:=[(6,.sl)]) (S:=(fun n x w=>K_4o K n x.1 x.2.1 x.2.2.1 x.2.2.2.1 x.2.2.2.2.1 w)) (K_q1 K) (K_q0 K) rfl (Orc.nil _ _ _) (by kernel_rfl) (fun _ _=>by kernel_rfl) (fun _ _ _=>by kernel_rfl) n
noncomputable def K_m2 (K:Nat):SE:=stmtN [(0,.sl),(4,.addr),(5,.sl),(6,.sl),(7,.int .i64)] [(6,.sl)] [(6,8),(18,43)] (fun x w=>K_4o K K x.1 x.2.1 x.2.2.1 x.2.2.2.1 x.2.2.2.2.1 w)
theorem K_ui(K:Nat)(R:Rg)(h:subRB [(6,8),(18,43)] R=true):(K_m2 K).Ok prog R (.block 0 (.loop (cd (bodyOf f78) [1,1,1,1,1,0,1,0,0]))):=K_2 (K_zn K K) (K_0 h)
theorem K_lv:FunFacts prog 78 f78 (bodyOf f78) [(0,.sl)] [(0,53)]:=⟨func78,by kernel_rfl,by kernel_rfl,by kernel_rfl,by kernel_rfl,by kernel_rfl⟩
theorem K_106(K:Nat)(x:TT [(0,.sl)])(w:World)(y:TR [.sl])(w2:World)(h:K_ae K x.1 w=some (y,w2)):Calls prog 78 (encA [(0,.sl)] x).toArray w (fun e w3=>e= .returned (resV (encR [.sl] y))∧w3=w2):=
  K_b (O:=tabL [([1,1,1,1,1,0,1],K_m2 K)]) (Lp:=[(0,.sl)]) (Rt:=[.sl]) (S:=(fun x w=>K_ae K x.1 w)) (K_q1 K) (K_q0 K) rfl K_lv (Orc.cons (by kernel_rfl) (K_ui K [(0,53)] (by kernel_rfl)) (Orc.nil _ _ _)) (fun _ _=>by kernel_rfl) x w y w2 h
noncomputable def K_rs (K:Nat):CE:=funE [(0,.sl)] [.sl] (fun x w=>K_ae K x.1 w)
theorem K_17d(K:Nat):(K_rs K).Ok prog 78:=K_8 K_lv fun x w y w2 h=>K_106 K x w y w2 h
noncomputable def K_18r (K:Nat):List (Nat×CE):=[(78,K_rs K)]
theorem K_145(K:Nat):Env.Ok prog (tab (K_18r K)):=(Env.cons (K_17d K) (Env.nil _))
noncomputable def K_18d (K:Nat):List (Nat×RE):=[]
theorem K_15n(K:Nat):REnv.Ok prog (tab (K_18d K)):=(REnv.nil _)
noncomputable def K_d1 (K:Nat) (s0:Array Value) (values1:Sl) (w:World):Option ((Sl×Unit)×World):=
 bnd (newB s0 84 w) fun p_1 w_2=>
 (ldI .u16 (p_1.add 0) w_2).bind fun v_3=>
 (ldI .u16 (p_1.add 0) w_2).bind fun v_4=>
 (ldI .i64 (p_1.add 1) w_2).bind fun v_5=>
 (ldI .i64 (p_1.add 2) w_2).bind fun v_6=>
 (ldI .i64 (p_1.add 3) w_2).bind fun v_7=>
 bnd (bldS prog 23 5 #[(0,(.int .u8 (IntKind.u8.wrap (IntKind.u16.wrap (Int.tdiv v_3 256))))),(1,(.int .u8 (IntKind.u8.wrap (Int.tmod v_4 256)))),(2,(.int .u8 (IntKind.u8.wrap v_5))),(3,(.int .u8 (IntKind.u8.wrap v_6))),(4,(.int .u8 (IntKind.u8.wrap v_7)))] w_2) fun s_8 w_9=>
 bnd (apd prog 23 23 (.slice s_8.a s_8.len s_8.cap) (.slice values1.a values1.len values1.cap) w_9) fun s_10 w_11=>
 if ((Int.tmod ((s_10.len:Nat):Int) 2) == 1)=true then(bnd (bldS prog 23 1 #[(0,(.int .u8 0))] w_11) fun s_12 w_13=>
 bnd (apd prog 23 23 (.slice s_10.a s_10.len s_10.cap) (.slice s_12.a s_12.len s_12.cap) w_13) fun s_14 w_15=>
 bnd (K_ae K s_14 w_15) fun r_16 w_17=>
 some ((r_16.1,()),w_17)) else(bnd (K_ae K s_10 w_11) fun r_18 w_19=>
 some ((r_18.1,()),w_19))
theorem K_m3:FunFacts prog 50 f50 (bodyOf f50) [(0,.agg),(1,.sl)] [(0,36)]:=⟨func50,by kernel_rfl,by kernel_rfl,by kernel_rfl,by kernel_rfl,by kernel_rfl⟩
theorem K_zi(K:Nat)(x:TT [(0,.agg),(1,.sl)])(w:World)(y:TR [.sl])(w2:World)(h:K_d1 K x.1 x.2.1 w=some (y,w2)):Calls prog 50 (encA [(0,.agg),(1,.sl)] x).toArray w (fun e w3=>e= .returned (resV (encR [.sl] y))∧w3=w2):=
  K_b (O:=tabL []) (Lp:=[(0,.agg),(1,.sl)]) (Rt:=[.sl]) (S:=(fun x w=>K_d1 K x.1 x.2.1 w)) (K_145 K) (K_15n K) rfl K_m3 (Orc.nil _ _ _) (fun _ _=>by kernel_rfl) x w y w2 h
noncomputable def K_ro (K:Nat):CE:=funE [(0,.agg),(1,.sl)] [.sl] (fun x w=>K_d1 K x.1 x.2.1 w)
theorem K_176(K:Nat):(K_ro K).Ok prog 50:=K_8 K_m3 fun x w y w2 h=>K_zi K x w y w2 h
noncomputable def K_19o (K:Nat):List (Nat×CE):=[]
theorem K_hu(K:Nat):Env.Ok prog (tab (K_19o K)):=(Env.nil _)
noncomputable def K_18f (K:Nat):List (Nat×RE):=[]
theorem K_i0(K:Nat):REnv.Ok prog (tab (K_18f K)):=(REnv.nil _)
noncomputable def K_84 (K:Nat) (s3:ByteArray) (a47:Bool) (w:World):Option ((ByteArray×Unit)×World):=
 if a47=true then(if s3.size+str3.size≤9223372036854775807 then(some (((s3 ++ str3),()),w)) else none) else(some ((s3,()),w))
noncomputable def K_8v (K:Nat) (rec:Sl→ByteArray→Int→World→Option ((ByteArray×Unit)×World)) (b0:Sl) (s3:ByteArray) (i4:Int) (w:World):Option ((ByteArray×Unit)×World):=
 if (decide ((IntKind.i64.wrap (i4+1))<((b0.len:Nat):Int)))=true then((b0.a).bind fun p_1=>
 if (0:Int)≤i4∧i4<((b0.len:Nat):Int) then((b0.a).bind fun p_2=>
 if (0:Int)≤(IntKind.i64.wrap (i4+1))∧(IntKind.i64.wrap (i4+1))<((b0.len:Nat):Int) then((ldI .u8 (p_1.add ((Int.toNat i4)*1)) w.drew).bind fun v_3=>
 (ldI .u8 (p_2.add ((Int.toNat (IntKind.i64.wrap (i4+1)))*1)) w.drew).bind fun v_4=>
 if (0:Int)≤(IntKind.i64.wrap (Int.tdiv (IntKind.i64.wrap ((IntKind.i64.wrap ((IntKind.i64.wrap v_3)*256))+(IntKind.i64.wrap v_4))) 4096)) then((str1[(Int.toNat (IntKind.i64.wrap (Int.tdiv (IntKind.i64.wrap ((IntKind.i64.wrap ((IntKind.i64.wrap v_3)*256))+(IntKind.i64.wrap v_4))) 4096)))]?).bind fun b_5=>
 if (0:Int)≤(Int.tmod (IntKind.i64.wrap (Int.tdiv (IntKind.i64.wrap ((IntKind.i64.wrap ((IntKind.i64.wrap v_3)*256))+(IntKind.i64.wrap v_4))) 1024)) 4) then((str2[(Int.toNat (Int.tmod (IntKind.i64.wrap (Int.tdiv (IntKind.i64.wrap ((IntKind.i64.wrap ((IntKind.i64.wrap v_3)*256))+(IntKind.i64.wrap v_4))) 1024)) 4))]?).bind fun b_6=>
 if (0:Int)≤(Int.tmod (IntKind.i64.wrap (Int.tdiv (IntKind.i64.wrap ((IntKind.i64.wrap ((IntKind.i64.wrap v_3)*256))+(IntKind.i64.wrap v_4))) 64)) 16) then((str1[(Int.toNat (Int.tmod (IntKind.i64.wrap (Int.tdiv (IntKind.i64.wrap ((IntKind.i64.wrap ((IntKind.i64.wrap v_3)*256))+(IntKind.i64.wrap v_4))) 64)) 16))]?).bind fun b_7=>
 if (0:Int)≤(Int.tmod (IntKind.i64.wrap (Int.tdiv (IntKind.i64.wrap ((IntKind.i64.wrap ((IntKind.i64.wrap v_3)*256))+(IntKind.i64.wrap v_4))) 16)) 4) then((str2[(Int.toNat (Int.tmod (IntKind.i64.wrap (Int.tdiv (IntKind.i64.wrap ((IntKind.i64.wrap ((IntKind.i64.wrap v_3)*256))+(IntKind.i64.wrap v_4))) 16)) 4))]?).bind fun b_8=>
 if (0:Int)≤(Int.tmod (IntKind.i64.wrap ((IntKind.i64.wrap ((IntKind.i64.wrap v_3)*256))+(IntKind.i64.wrap v_4))) 16) then((str1[(Int.toNat (Int.tmod (IntKind.i64.wrap ((IntKind.i64.wrap ((IntKind.i64.wrap v_3)*256))+(IntKind.i64.wrap v_4))) 16))]?).bind fun b_9=>
 bnd (bldS prog 23 5 #[(0,(.int .u8 ((b_5.toNat:Nat):Int))),(1,(.int .u8 ((b_6.toNat:Nat):Int))),(2,(.int .u8 ((b_7.toNat:Nat):Int))),(3,(.int .u8 ((b_8.toNat:Nat):Int))),(4,(.int .u8 ((b_9.toNat:Nat):Int)))] w.drew.drew) fun s_10 w_11=>
 bnd (K_84 K s3 (decide (i4 > 0)) w_11) fun y_12 w_13=>
 (b2sQ prog s_10.a s_10.len s_10.cap w_13).bind fun c_14=>
 if y_12.1.size+c_14.size≤9223372036854775807 then(rec b0 (y_12.1 ++ c_14) (IntKind.i64.wrap (i4+2)) w_13) else none) else none) else none) else none) else none) else none) else none) else none) else(some ((s3,()),w))
noncomputable def K_4k (K:Nat) (n:Nat):Sl→ByteArray→Int→World→Option ((ByteArray×Unit)×World):=iter (fun _ _ _ _=>none) (K_8v K) n
noncomputable def K_cu (K:Nat) (b0:Sl) (w:World):Option ((ByteArray×Unit)×World):=
 bnd (K_4k K K b0 str0 0 w) fun y_15 w_16=>
 some ((y_15.1,()),w_16)
theorem K_10t(K:Nat):StmtNOk prog [(3,.str),(47,.bool)] [(3,.str)] [(3,4),(48,50)] (fun x w=>K_84 K x.1 x.2.1 w) (cd (bodyOf f49) [1,1,0,1,0,0,1,0,0,1,1,0,1]):=
  K_g (O:=tabL []) (root:=(bodyOf f49)) (π:=[1,1,0,1,0,0,1,0,0,1,1,0,1]) (K_hu K) (K_i0 K) rfl (Orc.nil _ _ _) (by kernel_rfl) (fun _ _=>by kernel_rfl)
noncomputable def K_fe (K:Nat):SE:=stmtN [(3,.str),(47,.bool)] [(3,.str)] [(3,4),(48,50)] (fun x w=>K_84 K x.1 x.2.1 w)
theorem K_hj(K:Nat)(R:Rg)(h:subRB [(3,4),(48,50)] R=true):(K_fe K).Ok prog R (cd (bodyOf f49) [1,1,0,1,0,0,1,0,0,1,1,0,1]):=K_2 (K_10t K) (K_0 h)
theorem K_100(K:Nat)(n:Nat):StmtNOk prog [(0,.sl),(3,.str),(4,.int .i64)] [(3,.str)] [(3,54)] ((fun n x w=>K_4k K n x.1 x.2.1 x.2.2.1 w) n) (.block 0 (.loop (cd (bodyOf f49) [1,1,0,1,0,0]))):=
  K_4 (O:=tabL [([1,1,0,1,0,0,1,0,0,1,1,0,1],K_fe K)]) (root:=(bodyOf f49)) (π:=[1,1,0,1,0,0]) (Li:=[(0,.sl),(3,.str),(4,.int .i64)]) (Lo:=[(3,.str)]) (S:=(fun n x w=>K_4k K n x.1 x.2.1 x.2.2.1 w)) (K_hu K) (K_i0 K) rfl (Orc.cons (by kernel_rfl) (K_hj K [(3,54)] (by kernel_rfl)) (Orc.nil _ _ _)) (by kernel_rfl) (fun _ _=>by kernel_rfl) (fun _ _ _=>by kernel_rfl) n
noncomputable def K_m5 (K:Nat):SE:=stmtN [(0,.sl),(3,.str),(4,.int .i64)] [(3,.str)] [(3,54)] (fun x w=>K_4k K K x.1 x.2.1 x.2.2.1 w)
theorem K_uo(K:Nat)(R:Rg)(h:subRB [(3,54)] R=true):(K_m5 K).Ok prog R (.block 0 (.loop (cd (bodyOf f49) [1,1,0,1,0,0]))):=K_2 (K_100 K K) (K_0 h)
theorem K_m7:FunFacts prog 49 f49 (bodyOf f49) [(0,.sl)] [(0,55)]:=⟨func49,by kernel_rfl,by kernel_rfl,by kernel_rfl,by kernel_rfl,by kernel_rfl⟩
theorem K_105(K:Nat)(x:TT [(0,.sl)])(w:World)(y:TR [.str])(w2:World)(h:K_cu K x.1 w=some (y,w2)):Calls prog 49 (encA [(0,.sl)] x).toArray w (fun e w3=>e= .returned (resV (encR [.str] y))∧w3=w2):=
  K_b (O:=tabL [([1,1,0,1],K_m5 K),([1,1,0,1,0,0,1,0,0,1,1,0,1],K_fe K)]) (Lp:=[(0,.sl)]) (Rt:=[.str]) (S:=(fun x w=>K_cu K x.1 w)) (K_hu K) (K_i0 K) rfl K_m7 (Orc.cons (by kernel_rfl) (K_uo K [(0,55)] (by kernel_rfl)) (Orc.cons (by kernel_rfl) (K_hj K [(0,55)] (by kernel_rfl)) (Orc.nil _ _ _))) (fun _ _=>by kernel_rfl) x w y w2 h
noncomputable def K_rw (K:Nat):CE:=funE [(0,.sl)] [.str] (fun x w=>K_cu K x.1 w)
theorem K_15z(K:Nat):(K_rw K).Ok prog 49:=K_8 K_m7 fun x w y w2 h=>K_105 K x w y w2 h
end Go.Sh
