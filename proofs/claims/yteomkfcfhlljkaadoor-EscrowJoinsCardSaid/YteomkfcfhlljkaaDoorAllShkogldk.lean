/- Texts of this claim, put together: Sh10, Sh11, Sh12, Sh13, Sh14 -/
import Derived.Test.YteomkfcfhlljkaaDoorAllShicolla
set_option maxRecDepth 100000
set_option linter.unusedVariables false
namespace Go.Sh
open Go.Fw Go.Proofs.Tryd
noncomputable def K_s (K:Nat):List (Nat×CE):=[(122,K_oq K),(61,ceR (K_2f K)),(80,K_50)]
theorem K_o(K:Nat):Env.Ok prog (tab (K_s K)):=(Env.cons (K_134 K) (Env.cons (K_1m7 (K_3h K)) (Env.cons (K_7w) (Env.nil _))))
noncomputable def K_zg (K:Nat):List (Nat×RE):=[(123,K_rc K),(124,K_dk K)]
theorem K_p(K:Nat):REnv.Ok prog (tab (K_zg K)):=(REnv.cons (K_179 K) (REnv.cons (K_hs K) (REnv.nil _)))
noncomputable def K_6e (K:Nat) (s5:Addr) (times7:Value) (w:World):Option ((Int×Unit)×World):=
 (ldI .u8 (s5.add (0*1)) w.drew).bind fun v_9=>
 (ldI .u8 (s5.add (2*1)) w.drew).bind fun v_10=>
 (ldI .u8 (s5.add (1*1)) w.drew).bind fun v_11=>
 (ldI .u8 (s5.add (1*1)) w.drew).bind fun v_12=>
 dyn (tab (K_s K)) times7 [(.int .u8 v_9),(.int .u8 v_10)] w.drew fun v_13 w_14=>
 (asI .u8 v_13).bind fun v_15=>
 (ldI .u8 (s5.add (1*1)) w_14).bind fun v_16=>
 sameK (.int .u8 v_12) (.int .u8 v_16) ((ldI .u8 (s5.add (1*1)) w_14).bind fun v_17=>
 sameK (.int .u8 v_11) (.int .u8 v_17) ((ldI .u8 (s5.add (2*1)) w_14).bind fun v_18=>
 sameK (.int .u8 v_10) (.int .u8 v_18) ((ldI .u8 (s5.add (0*1)) w_14).bind fun v_19=>
 sameK (.int .u8 v_9) (.int .u8 v_19) (dyn (tab (K_s K)) times7 [(.int .u8 v_11),(.int .u8 v_12)] w_14 fun v_20 w_21=>
 (asI .u8 v_20).bind fun v_22=>
 (ldI .u8 (s5.add (1*1)) w_21).bind fun v_23=>
 sameK (.int .u8 v_12) (.int .u8 v_23) ((ldI .u8 (s5.add (1*1)) w_21).bind fun v_24=>
 sameK (.int .u8 v_11) (.int .u8 v_24) ((ldI .u8 (s5.add (2*1)) w_21).bind fun v_25=>
 sameK (.int .u8 v_10) (.int .u8 v_25) ((ldI .u8 (s5.add (0*1)) w_21).bind fun v_26=>
 sameK (.int .u8 v_9) (.int .u8 v_26) (some (((bits .xor .u8 v_15 v_22),()),w_21)))))))))
noncomputable def K_6n (K:Nat) (s5:Addr) (w:World):Option ((Bool×Unit)×World):=
 (ldI .u8 (s5.add (0*1)) w).bind fun v_29=>
 if (v_29 == 0)=true then(some ((true,()),w)) else((ldI .u8 (s5.add (1*1)) w).bind fun v_30=>
 some (((v_30 == 0),()),w))
noncomputable def K_4l (K:Nat) (s5:Addr) (times7:Value) (delta8:Int) (w:World):Option ((Int×Unit)×World):=
 (ldI .u8 (s5.add (0*1)) w.drew).bind fun v_38=>
 (ldI .u8 (s5.add (3*1)) w.drew).bind fun v_39=>
 (ldI .u8 (s5.add (1*1)) w.drew).bind fun v_40=>
 (ldI .u8 (s5.add (2*1)) w.drew).bind fun v_41=>
 dyn (tab (K_s K)) times7 [(.int .u8 v_38),(.int .u8 v_39)] w.drew fun v_42 w_43=>
 (asI .u8 v_42).bind fun v_44=>
 (ldI .u8 (s5.add (2*1)) w_43).bind fun v_45=>
 sameK (.int .u8 v_41) (.int .u8 v_45) ((ldI .u8 (s5.add (1*1)) w_43).bind fun v_46=>
 sameK (.int .u8 v_40) (.int .u8 v_46) ((ldI .u8 (s5.add (3*1)) w_43).bind fun v_47=>
 sameK (.int .u8 v_39) (.int .u8 v_47) ((ldI .u8 (s5.add (0*1)) w_43).bind fun v_48=>
 sameK (.int .u8 v_38) (.int .u8 v_48) (dyn (tab (K_s K)) times7 [(.int .u8 v_40),(.int .u8 v_41)] w_43 fun v_49 w_50=>
 (asI .u8 v_49).bind fun v_51=>
 (ldI .u8 (s5.add (2*1)) w_50).bind fun v_52=>
 sameK (.int .u8 v_41) (.int .u8 v_52) ((ldI .u8 (s5.add (1*1)) w_50).bind fun v_53=>
 sameK (.int .u8 v_40) (.int .u8 v_53) ((ldI .u8 (s5.add (3*1)) w_50).bind fun v_54=>
 sameK (.int .u8 v_39) (.int .u8 v_54) ((ldI .u8 (s5.add (0*1)) w_50).bind fun v_55=>
 sameK (.int .u8 v_38) (.int .u8 v_55) ((K_65 K (bits .xor .u8 v_44 v_51) delta8).bind fun r_56=>
 (ldI .u8 (s5.add (2*1)) w_50).bind fun v_57=>
 sameK (.int .u8 v_41) (.int .u8 v_57) ((ldI .u8 (s5.add (1*1)) w_50).bind fun v_58=>
 sameK (.int .u8 v_40) (.int .u8 v_58) ((ldI .u8 (s5.add (3*1)) w_50).bind fun v_59=>
 sameK (.int .u8 v_39) (.int .u8 v_59) ((ldI .u8 (s5.add (0*1)) w_50).bind fun v_60=>
 sameK (.int .u8 v_38) (.int .u8 v_60) (some ((r_56.1,()),w_50)))))))))))))
noncomputable def K_4w (K:Nat) (s5:Addr) (times7:Value) (delta8:Int) (w:World):Option ((Int×Unit)×World):=
 (ldI .u8 (s5.add (1*1)) w.drew).bind fun v_63=>
 (ldI .u8 (s5.add (3*1)) w.drew).bind fun v_64=>
 (ldI .u8 (s5.add (2*1)) w.drew).bind fun v_65=>
 (ldI .u8 (s5.add (2*1)) w.drew).bind fun v_66=>
 dyn (tab (K_s K)) times7 [(.int .u8 v_63),(.int .u8 v_64)] w.drew fun v_67 w_68=>
 (asI .u8 v_67).bind fun v_69=>
 (ldI .u8 (s5.add (2*1)) w_68).bind fun v_70=>
 sameK (.int .u8 v_66) (.int .u8 v_70) ((ldI .u8 (s5.add (2*1)) w_68).bind fun v_71=>
 sameK (.int .u8 v_65) (.int .u8 v_71) ((ldI .u8 (s5.add (3*1)) w_68).bind fun v_72=>
 sameK (.int .u8 v_64) (.int .u8 v_72) ((ldI .u8 (s5.add (1*1)) w_68).bind fun v_73=>
 sameK (.int .u8 v_63) (.int .u8 v_73) (dyn (tab (K_s K)) times7 [(.int .u8 v_65),(.int .u8 v_66)] w_68 fun v_74 w_75=>
 (asI .u8 v_74).bind fun v_76=>
 (ldI .u8 (s5.add (2*1)) w_75).bind fun v_77=>
 sameK (.int .u8 v_66) (.int .u8 v_77) ((ldI .u8 (s5.add (2*1)) w_75).bind fun v_78=>
 sameK (.int .u8 v_65) (.int .u8 v_78) ((ldI .u8 (s5.add (3*1)) w_75).bind fun v_79=>
 sameK (.int .u8 v_64) (.int .u8 v_79) ((ldI .u8 (s5.add (1*1)) w_75).bind fun v_80=>
 sameK (.int .u8 v_63) (.int .u8 v_80) ((K_65 K (bits .xor .u8 v_69 v_76) delta8).bind fun r_81=>
 (ldI .u8 (s5.add (2*1)) w_75).bind fun v_82=>
 sameK (.int .u8 v_66) (.int .u8 v_82) ((ldI .u8 (s5.add (2*1)) w_75).bind fun v_83=>
 sameK (.int .u8 v_65) (.int .u8 v_83) ((ldI .u8 (s5.add (3*1)) w_75).bind fun v_84=>
 sameK (.int .u8 v_64) (.int .u8 v_84) ((ldI .u8 (s5.add (1*1)) w_75).bind fun v_85=>
 sameK (.int .u8 v_63) (.int .u8 v_85) (some ((r_81.1,()),w_75)))))))))))))
noncomputable def K_58 (K:Nat) (rec:Sl→Addr→Sl→Value→Int→Int→Int→Int→World→Option ((Sl×Unit)×World)) (b0:Sl) (s5:Addr) (places6:Sl) (times7:Value) (one9:Int) (two10:Int) (a85:Int) (a86:Int) (w:World):Option ((Sl×Unit)×World):=
 if (decide (a86<a85))=true then((K_5c K a86).bind fun r_88=>
 dyn (tab (K_s K)) times7 [(.int .u8 r_88.1),(.int .u8 r_88.1)] w fun v_89 w_90=>
 (asI .u8 v_89).bind fun v_91=>
 dyn (tab (K_s K)) times7 [(.int .u8 one9),(.int .u8 r_88.1)] w_90 fun v_92 w_93=>
 (asI .u8 v_92).bind fun v_94=>
 if ((bits .xor .u8 (bits .xor .u8 v_91 v_94) two10) == 0)=true then(bnd (bldS prog 23 1 #[(0,(.int .u8 r_88.1))] w_93) fun s_95 w_96=>
 bnd (apd prog 23 23 (.slice places6.a places6.len places6.cap) (.slice s_95.a s_95.len s_95.cap) w_96) fun s_97 w_98=>
 rec b0 s5 s_97 times7 one9 two10 a85 (IntKind.i64.wrap (a86+1)) w_98) else(rec b0 s5 places6 times7 one9 two10 a85 (IntKind.i64.wrap (a86+1)) w_93)) else(some ((places6,()),w))
noncomputable def K_1j (K:Nat) (n:Nat):Sl→Addr→Sl→Value→Int→Int→Int→Int→World→Option ((Sl×Unit)×World):=iter (fun _ _ _ _ _ _ _ _ _=>none) (K_58 K) n
noncomputable def K_a7 (K:Nat) (b0:Sl) (s5:Addr) (places6:Sl) (times7:Value) (delta8:Int) (a39:Bool) (w:World):Option ((Out (Sl×Unit) (Sl×Int×Bool×Unit))×World):=
 if a39=true then(bnd (K_6n K s5 w) fun y_31 w_32=>
 if y_31.1=true then(some (.ret (⟨none,0,0⟩,0,false,()),w_32)) else((ldI .u8 (s5.add (1*1)) w_32).bind fun v_33=>
 (ldI .u8 (s5.add (0*1)) w_32).bind fun v_34=>
 (K_65 K v_33 v_34).bind fun r_35=>
 bnd (bldS prog 23 1 #[(0,(.int .u8 r_35.1))] w_32) fun s_36 w_37=>
 some (.norm (s_36,()),w_37))) else(bnd (K_4l K s5 times7 delta8 w) fun y_61 w_62=>
 bnd (K_4w K s5 times7 delta8 w_62) fun y_86 w_87=>
 bnd (K_1j K K b0 s5 places6 times7 y_61.1 y_86.1 ((b0.len:Nat):Int) 0 w_87) fun y_99 w_100=>
 if (((y_99.1.len:Nat):Int) != 2)=true then(some (.ret (⟨none,0,0⟩,0,false,()),w_100)) else(some (.norm (y_99.1,()),w_100)))
noncomputable def K_a4 (K:Nat) (s5:Addr) (places6:Sl) (times7:Value) (i14:Int) (x15:Int) (v16:Int) (w:World):Option ((Int×Unit)×World):=
 (places6.a).bind fun p_109=>
 if (0:Int)≤(IntKind.i64.wrap (1 - i14))∧(IntKind.i64.wrap (1 - i14))<((places6.len:Nat):Int) then((places6.a).bind fun p_110=>
 if (0:Int)≤(IntKind.i64.wrap (1 - i14))∧(IntKind.i64.wrap (1 - i14))<((places6.len:Nat):Int) then((ldI .u8 (s5.add (1*1)) w.drew).bind fun v_111=>
 (ldI .u8 (s5.add (0*1)) w.drew).bind fun v_112=>
 (ldI .u8 (p_109.add ((Int.toNat (IntKind.i64.wrap (1 - i14)))*1)) w.drew).bind fun v_113=>
 (ldI .u8 (p_110.add ((Int.toNat (IntKind.i64.wrap (1 - i14)))*1)) w.drew).bind fun v_114=>
 dyn (tab (K_s K)) times7 [(.int .u8 v_112),(.int .u8 v_113)] w.drew fun v_115 w_116=>
 (asI .u8 v_115).bind fun v_117=>
 (ldI .u8 (p_110.add ((Int.toNat (IntKind.i64.wrap (1 - i14)))*1)) w_116).bind fun v_118=>
 sameK (.int .u8 v_114) (.int .u8 v_118) ((ldI .u8 (p_109.add ((Int.toNat (IntKind.i64.wrap (1 - i14)))*1)) w_116).bind fun v_119=>
 sameK (.int .u8 v_113) (.int .u8 v_119) ((ldI .u8 (s5.add (0*1)) w_116).bind fun v_120=>
 sameK (.int .u8 v_112) (.int .u8 v_120) ((ldI .u8 (s5.add (1*1)) w_116).bind fun v_121=>
 sameK (.int .u8 v_111) (.int .u8 v_121) ((K_65 K (bits .xor .u8 v_111 v_117) (bits .xor .u8 x15 v_114)).bind fun r_122=>
 (ldI .u8 (p_110.add ((Int.toNat (IntKind.i64.wrap (1 - i14)))*1)) w_116).bind fun v_123=>
 sameK (.int .u8 v_114) (.int .u8 v_123) ((ldI .u8 (p_109.add ((Int.toNat (IntKind.i64.wrap (1 - i14)))*1)) w_116).bind fun v_124=>
 sameK (.int .u8 v_113) (.int .u8 v_124) ((ldI .u8 (s5.add (0*1)) w_116).bind fun v_125=>
 sameK (.int .u8 v_112) (.int .u8 v_125) ((ldI .u8 (s5.add (1*1)) w_116).bind fun v_126=>
 sameK (.int .u8 v_111) (.int .u8 v_126) (some ((r_122.1,()),w_116)))))))))) else none) else none
noncomputable def K_31 (K:Nat) (s5:Addr) (places6:Sl) (times7:Value) (i14:Int) (x15:Int) (v16:Int) (a124:Bool) (w:World):Option ((Int×Unit)×World):=
 if a124=true then(bnd (K_a4 K s5 places6 times7 i14 x15 v16 w) fun y_127 w_128=>
 some ((y_127.1,()),w_128)) else(some ((v16,()),w))
noncomputable def K_54 (K:Nat) (rec:Addr→Sl→Value→Sl→Int→Int→Int→Sl→Int→Int→Int→Int→World→Option ((Int×Unit)×World)) (s5:Addr) (places6:Sl) (times7:Value) (out13:Sl) (x15:Int) (v16:Int) (at17:Int) (a113:Sl) (a114:Int) (a115:Int) (a146:Int) (a147:Int) (w:World):Option ((Int×Unit)×World):=
 if (decide (a147<a146))=true then((K_5c K (IntKind.i64.wrap ((IntKind.i64.wrap (((out13.len:Nat):Int) - 1)) - a147))).bind fun r_131=>
 if (r_131.1 == x15)=true then(rec s5 places6 times7 out13 x15 v16 a147 a113 a114 a115 a146 (IntKind.i64.wrap (a147+1)) w) else(rec s5 places6 times7 out13 x15 v16 at17 a113 a114 a115 a146 (IntKind.i64.wrap (a147+1)) w)) else(some ((at17,()),w))
noncomputable def K_24 (K:Nat) (n:Nat):Addr→Sl→Value→Sl→Int→Int→Int→Sl→Int→Int→Int→Int→World→Option ((Int×Unit)×World):=iter (fun _ _ _ _ _ _ _ _ _ _ _ _ _=>none) (K_54 K) n
noncomputable def K_5b (K:Nat) (rec:Addr→Sl→Value→Sl→Sl→Int→Int→World→Option ((Out (Unit) (Sl×Int×Bool×Unit))×World)) (s5:Addr) (places6:Sl) (times7:Value) (out13:Sl) (a113:Sl) (a114:Int) (a115:Int) (w:World):Option ((Out (Unit) (Sl×Int×Bool×Unit))×World):=
 if (decide (a115<a114))=true then((a113.a).bind fun p_106=>
 if (0:Int)≤a115∧a115<((a113.len:Nat):Int) then((ldI .u8 (p_106.add ((Int.toNat a115)*1)) w).bind fun v_107=>
 (ldI .u8 (s5.add (0*1)) w).bind fun v_108=>
 bnd (K_31 K s5 places6 times7 a115 v_107 v_108 (((places6.len:Nat):Int) == 2) w) fun y_129 w_130=>
 bnd (K_24 K K s5 places6 times7 out13 v_107 y_129.1 (-1) a113 a114 a115 ((out13.len:Nat):Int) 0 w_130) fun y_132 w_133=>
 if (decide (y_132.1<0))=true then(some (.ret (⟨none,0,0⟩,0,false,()),w_133)) else((out13.a).bind fun p_134=>
 if (0:Int)≤y_132.1∧y_132.1<((out13.len:Nat):Int) then((ldI .u8 (p_134.add ((Int.toNat y_132.1)*1)) w_133).bind fun v_135=>
 (out13.a).bind fun p_136=>
 if (0:Int)≤y_132.1∧y_132.1<((out13.len:Nat):Int) then((stC (p_136.add ((Int.toNat y_132.1)*1)) (.int .u8 (bits .xor .u8 v_135 y_129.1)) w_133).bind fun w_137=>
 rec s5 places6 times7 out13 a113 a114 (IntKind.i64.wrap (a115+1)) w_137) else none) else none)) else none) else(some (.norm (),w))
noncomputable def K_e (K:Nat) (n:Nat):Addr→Sl→Value→Sl→Sl→Int→Int→World→Option ((Out (Unit) (Sl×Int×Bool×Unit))×World):=iter (fun _ _ _ _ _ _ _ _=>none) (K_5b K) n
noncomputable def K_70 (K:Nat) (b0:Sl) (w:World):Option ((Sl×Int×Bool×Unit)×World):=
 bnd (K_43 K b0 w) fun r_1 w_2=>
 bnd (newB z170 170 w_2) fun s_3 w_4=>
 if (r_1.1).size=4 then((stA s_3 r_1.1 w_4).bind fun w_5=>
 (ldA 4 s_3 w_5).bind fun v_6=>
 (prog.built 170 []).bind fun cs_7=>
 (eqA prog 170 v_6 cs_7).bind fun b_8=>
 if b_8=true then(some ((b0,0,true,()),w_5)) else(bnd (K_6e K s_3 (.func (.func 61) #[] #[]) w_5) fun y_27 w_28=>
 bnd (K_a7 K b0 s_3 ⟨none,0,0⟩ (.func (.func 61) #[] #[]) y_27.1 (y_27.1 == 0) w_28) fun y_101 w_102=>
 (match y_101 with
 | .norm z_103n=>(bnd (K_i b0 w_102) fun r_104 w_105=>
 bnd (K_e K K s_3 z_103n.1 (.func (.func 61) #[] #[]) r_104.1 z_103n.1 ((z_103n.1.len:Nat):Int) 0 w_105) fun y_138 w_139=>
 (match y_138 with
 | .norm z_140n=>((prog.built 170 []).bind fun cs_141=>
 bnd (K_43 K r_104.1 w_139.drew) fun r_142 w_143=>
 (eqA prog 170 r_142.1 cs_141).bind fun b_144=>
 some ((r_104.1,((z_103n.1.len:Nat):Int),b_144,()),w_143))
 | .ret z_140r=>(some ((z_140r.1,z_140r.2.1,z_140r.2.2.1,()),w_139))))
 | .ret z_103r=>(some ((z_103r.1,z_103r.2.1,z_103r.2.2.1,()),w_102))))) else none
theorem K_th(K:Nat):StmtNOk prog [(5,.addr),(7,.val)] [(8,.int .u8)] [(8,9),(25,38)] (fun x w=>K_6e K x.1 x.2.1 w) (cd (bodyOf f96) [1,1,1,1,1,0]):=
  K_ab (K_o K) (K_p K) rfl (fun _ _=>by kernel_rfl)
noncomputable def K_h9 (K:Nat):SE:=stmtN [(5,.addr),(7,.val)] [(8,.int .u8)] [(8,9),(25,38)] (fun x w=>K_6e K x.1 x.2.1 w)
theorem K_nq(K:Nat)(R:Rg)(h:subRB [(8,9),(25,38)] R=true):(K_h9 K).Ok prog R (cd (bodyOf f96) [1,1,1,1,1,0]):=K_2 (K_th K) (K_0 h)
theorem K_rk(K:Nat):StmtNOk prog [(5,.addr)] [(47,.bool)] [(40,48)] (fun x w=>K_6n K x.1 w) (cd (bodyOf f96) [1,1,1,1,1,1,0,1,0,0,0]):=
  K_g (O:=tabL []) (root:=(bodyOf f96)) (π:=[1,1,1,1,1,1,0,1,0,0,0]) (K_o K) (K_p K) rfl (Orc.nil _ _ _) (by kernel_rfl) (fun _ _=>by kernel_rfl)
noncomputable def K_b3 (K:Nat):SE:=stmtN [(5,.addr)] [(47,.bool)] [(40,48)] (fun x w=>K_6n K x.1 w)
theorem K_e7(K:Nat)(R:Rg)(h:subRB [(40,48)] R=true):(K_b3 K).Ok prog R (cd (bodyOf f96) [1,1,1,1,1,1,0,1,0,0,0]):=K_2 (K_rk K) (K_0 h)
theorem K_ru(K:Nat):StmtNOk prog [(5,.addr),(7,.val),(8,.int .u8)] [(9,.int .u8)] [(9,10),(54,69)] (fun x w=>K_4l K x.1 x.2.1 x.2.2.1 w) (cd (bodyOf f96) [1,1,1,1,1,1,0,1,1,0]):=
  K_ab (K_o K) (K_p K) rfl (fun _ _=>by kernel_rfl)
noncomputable def K_bm (K:Nat):SE:=stmtN [(5,.addr),(7,.val),(8,.int .u8)] [(9,.int .u8)] [(9,10),(54,69)] (fun x w=>K_4l K x.1 x.2.1 x.2.2.1 w)
theorem K_du(K:Nat)(R:Rg)(h:subRB [(9,10),(54,69)] R=true):(K_bm K).Ok prog R (cd (bodyOf f96) [1,1,1,1,1,1,0,1,1,0]):=K_2 (K_ru K) (K_0 h)
theorem K_tf(K:Nat):StmtNOk prog [(5,.addr),(7,.val),(8,.int .u8)] [(10,.int .u8)] [(10,11),(69,84)] (fun x w=>K_4w K x.1 x.2.1 x.2.2.1 w) (cd (bodyOf f96) [1,1,1,1,1,1,0,1,1,1,0]):=
  K_ab (K_o K) (K_p K) rfl (fun _ _=>by kernel_rfl)
noncomputable def K_ay (K:Nat):SE:=stmtN [(5,.addr),(7,.val),(8,.int .u8)] [(10,.int .u8)] [(10,11),(69,84)] (fun x w=>K_4w K x.1 x.2.1 x.2.2.1 w)
theorem K_e1(K:Nat)(R:Rg)(h:subRB [(10,11),(69,84)] R=true):(K_ay K).Ok prog R (cd (bodyOf f96) [1,1,1,1,1,1,0,1,1,1,0]):=K_2 (K_tf K) (K_0 h)
theorem K_s2(K:Nat)(n:Nat):StmtNOk prog [(0,.sl),(5,.addr),(6,.sl),(7,.val),(9,.int .u8),(10,.int .u8),(85,.int .i64),(86,.int .i64)] [(6,.sl)] [(6,7),(11,13),(86,108)] ((fun n x w=>K_1j K n x.1 x.2.1 x.2.2.1 x.2.2.2.1 x.2.2.2.2.1 x.2.2.2.2.2.1 x.2.2.2.2.2.2.1 x.2.2.2.2.2.2.2.1 w) n) (.block 0 (.loop (cd (bodyOf f96) [1,1,1,1,1,1,0,1,1,1,1,0,1,0,0]))):=
  K_4 (O:=tabL []) (root:=(bodyOf f96)) (π:=[1,1,1,1,1,1,0,1,1,1,1,0,1,0,0]) (Li:=[(0,.sl),(5,.addr),(6,.sl),(7,.val),(9,.int .u8),(10,.int .u8),(85,.int .i64),(86,.int .i64)]) (Lo:=[(6,.sl)]) (S:=(fun n x w=>K_1j K n x.1 x.2.1 x.2.2.1 x.2.2.2.1 x.2.2.2.2.1 x.2.2.2.2.2.1 x.2.2.2.2.2.2.1 x.2.2.2.2.2.2.2.1 w)) (K_o K) (K_p K) rfl (Orc.nil _ _ _) (by kernel_rfl) (fun _ _=>by kernel_rfl) (fun _ _ _=>by kernel_rfl) n
noncomputable def K_bd (K:Nat):SE:=stmtN [(0,.sl),(5,.addr),(6,.sl),(7,.val),(9,.int .u8),(10,.int .u8),(85,.int .i64),(86,.int .i64)] [(6,.sl)] [(6,7),(11,13),(86,108)] (fun x w=>K_1j K K x.1 x.2.1 x.2.2.1 x.2.2.2.1 x.2.2.2.2.1 x.2.2.2.2.2.1 x.2.2.2.2.2.2.1 x.2.2.2.2.2.2.2.1 w)
theorem K_eb(K:Nat)(R:Rg)(h:subRB [(6,7),(11,13),(86,108)] R=true):(K_bd K).Ok prog R (.block 0 (.loop (cd (bodyOf f96) [1,1,1,1,1,1,0,1,1,1,1,0,1,0,0]))):=K_2 (K_s2 K K) (K_0 h)
theorem K_tg(K:Nat):StmtOk prog [(0,.sl),(5,.addr),(6,.sl),(7,.val),(8,.int .u8),(39,.bool)] [(6,.sl)] [(2,.sl),(3,.int .i64),(4,.bool)] [(2,5),(6,7),(9,13),(40,111)] (fun x w=>K_a7 K x.1 x.2.1 x.2.2.1 x.2.2.2.1 x.2.2.2.2.1 x.2.2.2.2.2.1 w) (cd (bodyOf f96) [1,1,1,1,1,1,0,1]):=
  K_1dt (O:=tabL [([1,1,1,1,1,1,0,1,0,0,0],K_b3 K),([1,1,1,1,1,1,0,1,1,0],K_bm K),([1,1,1,1,1,1,0,1,1,1,0],K_ay K),([1,1,1,1,1,1,0,1,1,1,1,0,1],K_bd K)]) (root:=(bodyOf f96)) (π:=[1,1,1,1,1,1,0,1]) (K_o K) (K_p K) rfl (Orc.cons (by kernel_rfl) (K_e7 K [(2,5),(6,7),(9,13),(40,111)] (by kernel_rfl)) (Orc.cons (by kernel_rfl) (K_du K [(2,5),(6,7),(9,13),(40,111)] (by kernel_rfl)) (Orc.cons (by kernel_rfl) (K_e1 K [(2,5),(6,7),(9,13),(40,111)] (by kernel_rfl)) (Orc.cons (by kernel_rfl) (K_eb K [(2,5),(6,7),(9,13),(40,111)] (by kernel_rfl)) (Orc.nil _ _ _))))) (by kernel_rfl) (fun _ _=>by kernel_rfl)
noncomputable def K_hd (K:Nat):SE:=stmt [(0,.sl),(5,.addr),(6,.sl),(7,.val),(8,.int .u8),(39,.bool)] [(6,.sl)] [(2,.sl),(3,.int .i64),(4,.bool)] [(2,5),(6,7),(9,13),(40,111)] (fun x w=>K_a7 K x.1 x.2.1 x.2.2.1 x.2.2.2.1 x.2.2.2.2.1 x.2.2.2.2.2.1 w)
theorem K_nh(K:Nat)(R:Rg)(h:subRB [(2,5),(6,7),(9,13),(40,111)] R=true):(K_hd K).Ok prog R (cd (bodyOf f96) [1,1,1,1,1,1,0,1]):=K_1o (K_tg K) (K_0 h)
theorem K_rj(K:Nat):StmtNOk prog [(5,.addr),(6,.sl),(7,.val),(14,.int .i64),(15,.int .u8),(16,.int .u8)] [(16,.int .u8)] [(16,17),(125,145)] (fun x w=>K_a4 K x.1 x.2.1 x.2.2.1 x.2.2.2.1 x.2.2.2.2.1 x.2.2.2.2.2.1 w) (cd (bodyOf f96) [1,1,1,1,1,1,1,1,0,1,0,0,1,1,0,0,1,1,0,1,0]):=
  K_ab (K_o K) (K_p K) rfl (fun _ _=>by kernel_rfl)
noncomputable def K_6u (K:Nat):SE:=stmtN [(5,.addr),(6,.sl),(7,.val),(14,.int .i64),(15,.int .u8),(16,.int .u8)] [(16,.int .u8)] [(16,17),(125,145)] (fun x w=>K_a4 K x.1 x.2.1 x.2.2.1 x.2.2.2.1 x.2.2.2.2.1 x.2.2.2.2.2.1 w)
theorem K_8t(K:Nat)(R:Rg)(h:subRB [(16,17),(125,145)] R=true):(K_6u K).Ok prog R (cd (bodyOf f96) [1,1,1,1,1,1,1,1,0,1,0,0,1,1,0,0,1,1,0,1,0]):=K_2 (K_rj K) (K_0 h)
theorem K_sn(K:Nat):StmtNOk prog [(5,.addr),(6,.sl),(7,.val),(14,.int .i64),(15,.int .u8),(16,.int .u8),(124,.bool)] [(16,.int .u8)] [(16,17),(125,145)] (fun x w=>K_31 K x.1 x.2.1 x.2.2.1 x.2.2.2.1 x.2.2.2.2.1 x.2.2.2.2.2.1 x.2.2.2.2.2.2.1 w) (cd (bodyOf f96) [1,1,1,1,1,1,1,1,0,1,0,0,1,1,0,0,1,1,0,1]):=
  K_g (O:=tabL [([1,1,1,1,1,1,1,1,0,1,0,0,1,1,0,0,1,1,0,1,0],K_6u K)]) (root:=(bodyOf f96)) (π:=[1,1,1,1,1,1,1,1,0,1,0,0,1,1,0,0,1,1,0,1]) (K_o K) (K_p K) rfl (Orc.cons (by kernel_rfl) (K_8t K [(16,17),(125,145)] (by kernel_rfl)) (Orc.nil _ _ _)) (by kernel_rfl) (fun _ _=>by kernel_rfl)
noncomputable def K_b5 (K:Nat):SE:=stmtN [(5,.addr),(6,.sl),(7,.val),(14,.int .i64),(15,.int .u8),(16,.int .u8),(124,.bool)] [(16,.int .u8)] [(16,17),(125,145)] (fun x w=>K_31 K x.1 x.2.1 x.2.2.1 x.2.2.2.1 x.2.2.2.2.1 x.2.2.2.2.2.1 x.2.2.2.2.2.2.1 w)
theorem K_dv(K:Nat)(R:Rg)(h:subRB [(16,17),(125,145)] R=true):(K_b5 K).Ok prog R (cd (bodyOf f96) [1,1,1,1,1,1,1,1,0,1,0,0,1,1,0,0,1,1,0,1]):=K_2 (K_sn K) (K_0 h)
theorem K_t7(K:Nat)(n:Nat):StmtNOk prog [(5,.addr),(6,.sl),(7,.val),(13,.sl),(15,.int .u8),(16,.int .u8),(17,.int .i64),(113,.sl),(114,.int .i64),(115,.int .i64),(146,.int .i64),(147,.int .i64)] [(17,.int .i64)] [(17,19),(147,160)] ((fun n x w=>K_24 K n x.1 x.2.1 x.2.2.1 x.2.2.2.1 x.2.2.2.2.1 x.2.2.2.2.2.1 x.2.2.2.2.2.2.1 x.2.2.2.2.2.2.2.1 x.2.2.2.2.2.2.2.2.1 x.2.2.2.2.2.2.2.2.2.1 x.2.2.2.2.2.2.2.2.2.2.1 x.2.2.2.2.2.2.2.2.2.2.2.1 w) n) (.block 4 (.loop (cd (bodyOf f96) [1,1,1,1,1,1,1,1,0,1,0,0,1,1,0,0,1,1,1,1,0,1,0,0]))):=
  K_4 (O:=tabL []) (root:=(bodyOf f96)) (π:=[1,1,1,1,1,1,1,1,0,1,0,0,1,1,0,0,1,1,1,1,0,1,0,0]) (Li:=[(5,.addr),(6,.sl),(7,.val),(13,.sl),(15,.int .u8),(16,.int .u8),(17,.int .i64),(113,.sl),(114,.int .i64),(115,.int .i64),(146,.int .i64),(147,.int .i64)]) (Lo:=[(17,.int .i64)]) (S:=(fun n x w=>K_24 K n x.1 x.2.1 x.2.2.1 x.2.2.2.1 x.2.2.2.2.1 x.2.2.2.2.2.1 x.2.2.2.2.2.2.1 x.2.2.2.2.2.2.2.1 x.2.2.2.2.2.2.2.2.1 x.2.2.2.2.2.2.2.2.2.1 x.2.2.2.2.2.2.2.2.2.2.1 x.2.2.2.2.2.2.2.2.2.2.2.1 w)) (K_o K) (K_p K) rfl (Orc.nil _ _ _) (by kernel_rfl) (fun _ _=>by kernel_rfl) (fun _ _ _=>by kernel_rfl) n
noncomputable def K_bn (K:Nat):SE:=stmtN [(5,.addr),(6,.sl),(7,.val),(13,.sl),(15,.int .u8),(16,.int .u8),(17,.int .i64),(113,.sl),(114,.int .i64),(115,.int .i64),(146,.int .i64),(147,.int .i64)] [(17,.int .i64)] [(17,19),(147,160)] (fun x w=>K_24 K K x.1 x.2.1 x.2.2.1 x.2.2.2.1 x.2.2.2.2.1 x.2.2.2.2.2.1 x.2.2.2.2.2.2.1 x.2.2.2.2.2.2.2.1 x.2.2.2.2.2.2.2.2.1 x.2.2.2.2.2.2.2.2.2.1 x.2.2.2.2.2.2.2.2.2.2.1 x.2.2.2.2.2.2.2.2.2.2.2.1 w)
theorem K_eg(K:Nat)(R:Rg)(h:subRB [(17,19),(147,160)] R=true):(K_bn K).Ok prog R (.block 4 (.loop (cd (bodyOf f96) [1,1,1,1,1,1,1,1,0,1,0,0,1,1,0,0,1,1,1,1,0,1,0,0]))):=K_2 (K_t7 K K) (K_0 h)
theorem K_rb(K:Nat)(n:Nat):StmtOk prog [(5,.addr),(6,.sl),(7,.val),(13,.sl),(113,.sl),(114,.int .i64),(115,.int .i64)] [] [(2,.sl),(3,.int .i64),(4,.bool)] [(2,5),(14,19),(115,170)] ((fun n x w=>K_e K n x.1 x.2.1 x.2.2.1 x.2.2.2.1 x.2.2.2.2.1 x.2.2.2.2.2.1 x.2.2.2.2.2.2.1 w) n) (.block 2 (.loop (cd (bodyOf f96) [1,1,1,1,1,1,1,1,0,1,0,0]))):=
  K_26 (O:=tabL [([1,1,1,1,1,1,1,1,0,1,0,0,1,1,0,0,1,1,0,1],K_b5 K),([1,1,1,1,1,1,1,1,0,1,0,0,1,1,0,0,1,1,0,1,0],K_6u K),([1,1,1,1,1,1,1,1,0,1,0,0,1,1,0,0,1,1,1,1,0,1],K_bn K)]) (root:=(bodyOf f96)) (π:=[1,1,1,1,1,1,1,1,0,1,0,0]) (Li:=[(5,.addr),(6,.sl),(7,.val),(13,.sl),(113,.sl),(114,.int .i64),(115,.int .i64)]) (Lo:=[]) (Lr:=[(2,.sl),(3,.int .i64),(4,.bool)]) (S:=(fun n x w=>K_e K n x.1 x.2.1 x.2.2.1 x.2.2.2.1 x.2.2.2.2.1 x.2.2.2.2.2.1 x.2.2.2.2.2.2.1 w)) (K_o K) (K_p K) rfl (Orc.cons (by kernel_rfl) (K_dv K [(2,5),(14,19),(115,170)] (by kernel_rfl)) (Orc.cons (by kernel_rfl) (K_8t K [(2,5),(14,19),(115,170)] (by kernel_rfl)) (Orc.cons (by kernel_rfl) (K_eg K [(2,5),(14,19),(115,170)] (by kernel_rfl)) (Orc.nil _ _ _)))) (by kernel_rfl) (fun _ _=>by kernel_rfl) (fun _ _ _=>by kernel_rfl) n
noncomputable def K_h0 (K:Nat):SE:=stmt [(5,.addr),(6,.sl),(7,.val),(13,.sl),(113,.sl),(114,.int .i64),(115,.int .i64)] [] [(2,.sl),(3,.int .i64),(4,.bool)] [(2,5),(14,19),(115,170)] (fun x w=>K_e K K x.1 x.2.1 x.2.2.1 x.2.2.2.1 x.2.2.2.2.1 x.2.2.2.2.2.1 x.2.2.2.2.2.2.1 w)
theorem K_on(K:Nat)(R:Rg)(h:subRB [(2,5),(14,19),(115,170)] R=true):(K_h0 K).Ok prog R (.block 2 (.loop (cd (bodyOf f96) [1,1,1,1,1,1,1,1,0,1,0,0]))):=K_1o (K_rb K K) (K_0 h)
theorem K_go:FunFacts prog 96 f96 (bodyOf f96) [(0,.sl)] [(0,177)]:=⟨func96,by kernel_rfl,by kernel_rfl,by kernel_rfl,by kernel_rfl,by kernel_rfl⟩
theorem K_rx(K:Nat)(x:TT [(0,.sl)])(w:World)(y:TR [.sl,.int .i64,.bool])(w2:World)(h:K_70 K x.1 w=some (y,w2)):Calls prog 96 (encA [(0,.sl)] x).toArray w (fun e w3=>e= .returned (resV (encR [.sl,.int .i64,.bool] y))∧w3=w2):=
  K_b (O:=tabL [([1,1,1,1,1,0],K_h9 K),([1,1,1,1,1,1,0,1],K_hd K),([1,1,1,1,1,1,0,1,0,0,0],K_b3 K),([1,1,1,1,1,1,0,1,1,0],K_bm K),([1,1,1,1,1,1,0,1,1,1,0],K_ay K),([1,1,1,1,1,1,0,1,1,1,1,0,1],K_bd K),([1,1,1,1,1,1,1,1,0,1],K_h0 K),([1,1,1,1,1,1,1,1,0,1,0,0,1,1,0,0,1,1,0,1],K_b5 K),([1,1,1,1,1,1,1,1,0,1,0,0,1,1,0,0,1,1,0,1,0],K_6u K),([1,1,1,1,1,1,1,1,0,1,0,0,1,1,0,0,1,1,1,1,0,1],K_bn K)]) (Lp:=[(0,.sl)]) (Rt:=[.sl,.int .i64,.bool]) (S:=(fun x w=>K_70 K x.1 w)) (K_o K) (K_p K) rfl K_go (Orc.cons (by kernel_rfl) (K_nq K [(0,177)] (by kernel_rfl)) (Orc.cons (by kernel_rfl) (K_nh K [(0,177)] (by kernel_rfl)) (Orc.cons (by kernel_rfl) (K_e7 K [(0,177)] (by kernel_rfl)) (Orc.cons (by kernel_rfl) (K_du K [(0,177)] (by kernel_rfl)) (Orc.cons (by kernel_rfl) (K_e1 K [(0,177)] (by kernel_rfl)) (Orc.cons (by kernel_rfl) (K_eb K [(0,177)] (by kernel_rfl)) (Orc.cons (by kernel_rfl) (K_on K [(0,177)] (by kernel_rfl)) (Orc.cons (by kernel_rfl) (K_dv K [(0,177)] (by kernel_rfl)) (Orc.cons (by kernel_rfl) (K_8t K [(0,177)] (by kernel_rfl)) (Orc.cons (by kernel_rfl) (K_eg K [(0,177)] (by kernel_rfl)) (Orc.nil _ _ _))))))))))) (fun _ _=>by kernel_rfl) x w y w2 h
noncomputable def K_kr (K:Nat):CE:=funE [(0,.sl)] [.sl,.int .i64,.bool] (fun x w=>K_70 K x.1 w)
theorem K_yb(K:Nat):(K_kr K).Ok prog 96:=K_8 K_go fun x w y w2 h=>K_rx K x w y w2 h
noncomputable def K_194:List (Nat×CE):=[]
theorem K_di:Env.Ok prog (tab (K_194)):=(Env.nil _)
noncomputable def K_19h:List (Nat×RE):=[]
theorem K_dn:REnv.Ok prog (tab (K_19h)):=(REnv.nil _)
noncomputable def K_bi (b0:Sl) (w:World):Option ((Addr×Unit)×World):=
 (b0.a).bind fun p_3=>
 if (0:Int)≤0∧0<((b0.len:Nat):Int) then((b0.a).bind fun p_4=>
 if (0:Int)≤1∧1<((b0.len:Nat):Int) then((b0.a).bind fun p_5=>
 if (0:Int)≤2∧2<((b0.len:Nat):Int) then((b0.a).bind fun p_6=>
 if (0:Int)≤3∧3<((b0.len:Nat):Int) then((b0.a).bind fun p_7=>
 if (0:Int)≤4∧4<((b0.len:Nat):Int) then((ldI .u8 (p_3.add (0*1)) w.drew).bind fun v_8=>
 (ldI .u8 (p_4.add (1*1)) w.drew).bind fun v_9=>
 (ldI .u8 (p_5.add (2*1)) w.drew).bind fun v_10=>
 (ldI .u8 (p_6.add (3*1)) w.drew).bind fun v_11=>
 (ldI .u8 (p_7.add (4*1)) w.drew).bind fun v_12=>
 (prog.built 84 [(0,(.int .u16 (bits .or .u16 (IntKind.u16.wrap ((IntKind.u16.wrap v_8)*2 ^ 8)) (IntKind.u16.wrap v_9)))),(1,(.int .i64 (IntKind.i64.wrap v_10))),(2,(.int .i64 (IntKind.i64.wrap v_11))),(3,(.int .i64 (IntKind.i64.wrap v_12)))]).bind fun cs_13=>
 (prog.built 102 [(0,(.agg cs_13))]).bind fun cs_14=>
 bnd (newB z102 102 w.drew) fun s_15 w_16=>
 (ldI .u8 (p_7.add (4*1)) w_16).bind fun v_17=>
 sameK (.int .u8 v_12) (.int .u8 v_17) ((ldI .u8 (p_6.add (3*1)) w_16).bind fun v_18=>
 sameK (.int .u8 v_11) (.int .u8 v_18) ((ldI .u8 (p_5.add (2*1)) w_16).bind fun v_19=>
 sameK (.int .u8 v_10) (.int .u8 v_19) ((ldI .u8 (p_4.add (1*1)) w_16).bind fun v_20=>
 sameK (.int .u8 v_9) (.int .u8 v_20) ((ldI .u8 (p_3.add (0*1)) w_16).bind fun v_21=>
 sameK (.int .u8 v_8) (.int .u8 v_21) (if (cs_14).size=5 then((stA s_15 cs_14 w_16).bind fun w_22=>
 (ldI .u8 (p_7.add (4*1)) w_22).bind fun v_23=>
 sameK (.int .u8 v_12) (.int .u8 v_23) ((ldI .u8 (p_6.add (3*1)) w_22).bind fun v_24=>
 sameK (.int .u8 v_11) (.int .u8 v_24) ((ldI .u8 (p_5.add (2*1)) w_22).bind fun v_25=>
 sameK (.int .u8 v_10) (.int .u8 v_25) ((ldI .u8 (p_4.add (1*1)) w_22).bind fun v_26=>
 sameK (.int .u8 v_9) (.int .u8 v_26) ((ldI .u8 (p_3.add (0*1)) w_22).bind fun v_27=>
 sameK (.int .u8 v_8) (.int .u8 v_27) (some ((s_15,()),w_22))))))) else none)))))) else none) else none) else none) else none) else none
noncomputable def K_ax (s4:Addr) (w:World):Option ((Bool×Unit)×World):=
 (ldI .i64 ((s4.add 0).add 1) w).bind fun v_30=>
 if (decide (v_30<1))=true then(some ((true,()),w)) else((ldI .i64 ((s4.add 0).add 1) w).bind fun v_31=>
 if (decide (v_31 > 16))=true then(some ((true,()),w)) else((ldI .i64 ((s4.add 0).add 2) w).bind fun v_32=>
 if (decide (v_32<1))=true then(some ((true,()),w)) else((ldI .i64 ((s4.add 0).add 3) w).bind fun v_33=>
 if (decide (v_33<1))=true then(some ((true,()),w)) else((ldI .i64 ((s4.add 0).add 3) w).bind fun v_34=>
 some (((decide (v_34 > 64)),()),w)))))
noncomputable def K_b1 (b0:Sl) (n5:Int) (pad6:Int) (w:World):Option ((Bool×Unit)×World):=
 if (((b0.len:Nat):Int) != (IntKind.i64.wrap ((IntKind.i64.wrap ((IntKind.i64.wrap (5+n5))+pad6))+4)))=true then(some ((true,()),w)) else(if (pad6 == 1)=true then((b0.a).bind fun p_41=>
 if (0:Int)≤(IntKind.i64.wrap (5+n5))∧(IntKind.i64.wrap (5+n5))<((b0.len:Nat):Int) then((ldI .u8 (p_41.add ((Int.toNat (IntKind.i64.wrap (5+n5)))*1)) w).bind fun v_42=>
 some (((v_42 != 0),()),w)) else none) else(some ((false,()),w)))
noncomputable def K_cw (b0:Sl) (w:World):Option (((Array Value)×Bool×Unit)×World):=
 bnd (newB z102 102 w) fun p_1 w_2=>
 bnd (K_bi b0 w_2) fun y_28 w_29=>
 bnd (K_ax y_28.1 w_29) fun y_35 w_36=>
 if y_35.1=true then((prog.built 102 []).bind fun cs_37=>
 if (cs_37).size=5 then((stA p_1 cs_37 w_36).bind fun w_38=>
 (ldA 5 p_1 w_38).bind fun res_39=>
 some ((res_39,false,()),w_38)) else none) else((ldI .i64 ((y_28.1.add 0).add 3) w_36).bind fun v_40=>
 bnd (K_b1 b0 (IntKind.i64.wrap (v_40+4)) (Int.tmod (IntKind.i64.wrap (5+(IntKind.i64.wrap (v_40+4)))) 2) w_36) fun y_43 w_44=>
 if y_43.1=true then((prog.built 102 []).bind fun cs_45=>
 if (cs_45).size=5 then((stA p_1 cs_45 w_44).bind fun w_46=>
 (ldA 5 p_1 w_46).bind fun res_47=>
 some ((res_47,false,()),w_46)) else none) else(if (0:Int)≤(IntKind.i64.wrap (5+(IntKind.i64.wrap (v_40+4))))∧(IntKind.i64.wrap (5+(IntKind.i64.wrap (v_40+4))))≤((b0.cap:Nat):Int) then(if (0:Int)≤(IntKind.i64.wrap (5+(IntKind.i64.wrap (v_40+4))))∧(IntKind.i64.wrap (5+(IntKind.i64.wrap (v_40+4))))≤(((Int.toNat ((IntKind.i64.wrap (5+(IntKind.i64.wrap (v_40+4)))))):Nat):Int) then(if (0:Int)≤5∧5≤(((Int.toNat ((IntKind.i64.wrap (5+(IntKind.i64.wrap (v_40+4)))))):Nat):Int) then((stC (y_28.1.add 4) (.slice (sla b0.a 5 (Int.toNat ((IntKind.i64.wrap (5+(IntKind.i64.wrap (v_40+4)))))) 1) ((Int.toNat ((IntKind.i64.wrap (5+(IntKind.i64.wrap (v_40+4)))))) - 5) ((Int.toNat ((IntKind.i64.wrap (5+(IntKind.i64.wrap (v_40+4)))))) - 5)) w_44).bind fun w_48=>
 (ldA 5 y_28.1 w_48).bind fun v_49=>
 if (v_49).size=5 then((stA p_1 v_49 w_48).bind fun w_50=>
 (ldA 5 p_1 w_50).bind fun res_51=>
 some ((res_51,true,()),w_50)) else none) else none) else none) else none))
theorem K_10i:StmtNOk prog [(0,.sl)] [(4,.addr)] [(4,5),(7,31)] (fun x w=>K_bi x.1 w) (cd (bodyOf f97) [1,0]):=
  K_ab (K_di) (K_dn) rfl (fun _ _=>by kernel_rfl)
noncomputable def K_lw:SE:=stmtN [(0,.sl)] [(4,.addr)] [(4,5),(7,31)] (fun x w=>K_bi x.1 w)
theorem K_ud(R:Rg)(h:subRB [(4,5),(7,31)] R=true):(K_lw).Ok prog R (cd (bodyOf f97) [1,0]):=K_2 (K_10i) (K_0 h)
theorem K_zf:StmtNOk prog [(4,.addr)] [(58,.bool)] [(31,59)] (fun x w=>K_ax x.1 w) (cd (bodyOf f97) [1,1,0,0]):=
  K_g (O:=tabL []) (root:=(bodyOf f97)) (π:=[1,1,0,0]) (K_di) (K_dn) rfl (Orc.nil _ _ _) (by kernel_rfl) (fun _ _=>by kernel_rfl)
noncomputable def K_lj:SE:=stmtN [(4,.addr)] [(58,.bool)] [(31,59)] (fun x w=>K_ax x.1 w)
theorem K_tr(R:Rg)(h:subRB [(31,59)] R=true):(K_lj).Ok prog R (cd (bodyOf f97) [1,1,0,0]):=K_2 (K_zf) (K_0 h)
theorem K_10r:StmtNOk prog [(0,.sl),(5,.int .i64),(6,.int .i64)] [(86,.bool)] [(67,87)] (fun x w=>K_b1 x.1 x.2.1 x.2.2.1 w) (cd (bodyOf f97) [1,1,1,1,1,0,0]):=
  K_g (O:=tabL []) (root:=(bodyOf f97)) (π:=[1,1,1,1,1,0,0]) (K_di) (K_dn) rfl (Orc.nil _ _ _) (by kernel_rfl) (fun _ _=>by kernel_rfl)
noncomputable def K_ll:SE:=stmtN [(0,.sl),(5,.int .i64),(6,.int .i64)] [(86,.bool)] [(67,87)] (fun x w=>K_b1 x.1 x.2.1 x.2.2.1 w)
theorem K_tx(R:Rg)(h:subRB [(67,87)] R=true):(K_ll).Ok prog R (cd (bodyOf f97) [1,1,1,1,1,0,0]):=K_2 (K_10r) (K_0 h)
theorem K_lo:FunFacts prog 97 f97 (bodyOf f97) [(0,.sl)] [(0,96)]:=⟨func97,by kernel_rfl,by kernel_rfl,by kernel_rfl,by kernel_rfl,by kernel_rfl⟩
theorem K_103(x:TT [(0,.sl)])(w:World)(y:TR [.agg,.bool])(w2:World)(h:K_cw x.1 w=some (y,w2)):Calls prog 97 (encA [(0,.sl)] x).toArray w (fun e w3=>e= .returned (resV (encR [.agg,.bool] y))∧w3=w2):=
  K_b (O:=tabL [([1,0],K_lw),([1,1,0,0],K_lj),([1,1,1,1,1,0,0],K_ll)]) (Lp:=[(0,.sl)]) (Rt:=[.agg,.bool]) (S:=(fun x w=>K_cw x.1 w)) (K_di) (K_dn) rfl K_lo (Orc.cons (by kernel_rfl) (K_ud [(0,96)] (by kernel_rfl)) (Orc.cons (by kernel_rfl) (K_tr [(0,96)] (by kernel_rfl)) (Orc.cons (by kernel_rfl) (K_tx [(0,96)] (by kernel_rfl)) (Orc.nil _ _ _)))) (fun _ _=>by kernel_rfl) x w y w2 h
noncomputable def K_sp:CE:=funE [(0,.sl)] [.agg,.bool] (fun x w=>K_cw x.1 w)
theorem K_15x:(K_sp).Ok prog 97:=K_8 K_lo fun x w y w2 h=>K_103 x w y w2 h
noncomputable def K_15r (K:Nat):List (Nat×CE):=[(95,K_l8 K),(96,K_kr K),(97,K_sp)]
theorem K_mj(K:Nat):Env.Ok prog (tab (K_15r K)):=(Env.cons (K_ya K) (Env.cons (K_yb K) (Env.cons (K_15x) (Env.nil _))))
noncomputable def K_158 (K:Nat):List (Nat×RE):=[]
theorem K_md(K:Nat):REnv.Ok prog (tab (K_158 K)):=(REnv.nil _)
noncomputable def K_8a (K:Nat) (b5:Sl) (w:World):Option ((Bool×Unit)×World):=
 if (decide (((b5.len:Nat):Int)<14))=true then(some ((true,()),w)) else(some (((decide (((b5.len:Nat):Int) > 78)),()),w))
noncomputable def K_9d (K:Nat) (text0:ByteArray) (w:World):Option (((Array Value)×Int×Int×Unit)×World):=
 bnd (newB z102 102 w) fun p_1 w_2=>
 if (decide (((text0.size:Nat):Int) > 1024))=true then((prog.built 102 []).bind fun cs_3=>
 if (cs_3).size=5 then((stA p_1 cs_3 w_2).bind fun w_4=>
 (ldA 5 p_1 w_4).bind fun res_5=>
 some ((res_5,0,4,()),w_4)) else none) else(bnd (K_71 K text0 w_2) fun r_6 w_7=>
 if (!r_6.2.1)=true then((prog.built 102 []).bind fun cs_8=>
 if (cs_8).size=5 then((stA p_1 cs_8 w_7).bind fun w_9=>
 (ldA 5 p_1 w_9).bind fun res_10=>
 some ((res_10,0,112,()),w_9)) else none) else(bnd (K_8a K r_6.1 w_7) fun y_11 w_12=>
 if y_11.1=true then((prog.built 102 []).bind fun cs_13=>
 if (cs_13).size=5 then((stA p_1 cs_13 w_12).bind fun w_14=>
 (ldA 5 p_1 w_14).bind fun res_15=>
 some ((res_15,0,113,()),w_14)) else none) else(bnd (K_70 K r_6.1 w_12) fun r_16 w_17=>
 if (!r_16.2.2.1)=true then((prog.built 102 []).bind fun cs_18=>
 if (cs_18).size=5 then((stA p_1 cs_18 w_17).bind fun w_19=>
 (ldA 5 p_1 w_19).bind fun res_20=>
 some ((res_20,0,113,()),w_19)) else none) else(bnd (K_cw r_16.1 w_17) fun r_21 w_22=>
 bnd (newB z102 102 w_22) fun s_23 w_24=>
 if (r_21.1).size=5 then((stA s_23 r_21.1 w_24).bind fun w_25=>
 if (!r_21.2.1)=true then((prog.built 102 []).bind fun cs_26=>
 if (cs_26).size=5 then((stA p_1 cs_26 w_25).bind fun w_27=>
 (ldA 5 p_1 w_27).bind fun res_28=>
 some ((res_28,0,113,()),w_27)) else none) else((ldA 5 s_23 w_25).bind fun v_29=>
 if (v_29).size=5 then((stA p_1 v_29 w_25).bind fun w_30=>
 (ldA 5 p_1 w_30).bind fun res_31=>
 some ((res_31,r_16.2.1,0,()),w_30)) else none)) else none))))
theorem K_wh(K:Nat):StmtNOk prog [(5,.sl)] [(29,.bool)] [(22,30)] (fun x w=>K_8a K x.1 w) (cd (bodyOf f74) [1,1,1,1,0,0]):=
  K_g (O:=tabL []) (root:=(bodyOf f74)) (π:=[1,1,1,1,0,0]) (K_mj K) (K_md K) rfl (Orc.nil _ _ _) (by kernel_rfl) (fun _ _=>by kernel_rfl)
noncomputable def K_j5 (K:Nat):SE:=stmtN [(5,.sl)] [(29,.bool)] [(22,30)] (fun x w=>K_8a K x.1 w)
theorem K_qo(K:Nat)(R:Rg)(h:subRB [(22,30)] R=true):(K_j5 K).Ok prog R (cd (bodyOf f74) [1,1,1,1,0,0]):=K_2 (K_wh K) (K_0 h)
theorem K_ih:FunFacts prog 74 f74 (bodyOf f74) [(0,.str)] [(0,50)]:=⟨func74,by kernel_rfl,by kernel_rfl,by kernel_rfl,by kernel_rfl,by kernel_rfl⟩
theorem K_vt(K:Nat)(x:TT [(0,.str)])(w:World)(y:TR [.agg,.int .i64,.int .i64])(w2:World)(h:K_9d K x.1 w=some (y,w2)):Calls prog 74 (encA [(0,.str)] x).toArray w (fun e w3=>e= .returned (resV (encR [.agg,.int .i64,.int .i64] y))∧w3=w2):=
  K_b (O:=tabL [([1,1,1,1,0,0],K_j5 K)]) (Lp:=[(0,.str)]) (Rt:=[.agg,.int .i64,.int .i64]) (S:=(fun x w=>K_9d K x.1 w)) (K_mj K) (K_md K) rfl K_ih (Orc.cons (by kernel_rfl) (K_qo K [(0,50)] (by kernel_rfl)) (Orc.nil _ _ _)) (fun _ _=>by kernel_rfl) x w y w2 h
noncomputable def K_p0 (K:Nat):CE:=funE [(0,.str)] [.agg,.int .i64,.int .i64] (fun x w=>K_9d K x.1 w)
theorem K_13f(K:Nat):(K_p0 K).Ok prog 74:=K_8 K_ih fun x w y w2 h=>K_vt K x w y w2 h
noncomputable def K_n5 (K:Nat):List (Nat×CE):=[]
theorem K_co(K:Nat):Env.Ok prog (tab (K_n5 K)):=(Env.nil _)
noncomputable def K_nx (K:Nat):List (Nat×RE):=[]
theorem K_ck(K:Nat):REnv.Ok prog (tab (K_nx K)):=(REnv.nil _)
noncomputable def K_v (K:Nat) (rec:Sl→Sl→Int→Int→World→Option ((Out (Unit) (Bool×Unit))×World)) (s10:Sl) (s21:Sl) (a12:Int) (a13:Int) (w:World):Option ((Out (Unit) (Bool×Unit))×World):=
 if (decide (a13<a12))=true then((s10.a).bind fun p_1=>
 if (0:Int)≤a13∧a13<((s10.len:Nat):Int) then((s21.a).bind fun p_2=>
 if (0:Int)≤a13∧a13<((s21.len:Nat):Int) then((ldI .u8 (p_1.add ((Int.toNat a13)*1)) w.drew).bind fun v_3=>
 (ldI .u8 (p_2.add ((Int.toNat a13)*1)) w.drew).bind fun v_4=>
 if (v_3 != v_4)=true then(some (.ret (false,()),w.drew)) else(rec s10 s21 a12 (IntKind.i64.wrap (a13+1)) w.drew)) else none) else none) else(some (.norm (),w))
noncomputable def K_m (K:Nat) (n:Nat):Sl→Sl→Int→Int→World→Option ((Out (Unit) (Bool×Unit))×World):=iter (fun _ _ _ _ _=>none) (K_v K) n
noncomputable def K_17 (K:Nat) (s10:Sl) (s21:Sl) (w:World):Option ((Bool×Unit)×World):=
 if (((s10.len:Nat):Int) != ((s21.len:Nat):Int))=true then(some ((false,()),w)) else(bnd (K_m K K s10 s21 ((s10.len:Nat):Int) 0 w) fun y_5 w_6=>
 (match y_5 with
 | .norm z_7n=>(some ((true,()),w_6))
 | .ret z_7r=>(some ((z_7r.1,()),w_6))))
theorem K_jm(K:Nat)(n:Nat):StmtOk prog [(0,.sl),(1,.sl),(12,.int .i64),(13,.int .i64)] [] [(4,.bool)] [(4,6),(13,26)] ((fun n x w=>K_m K n x.1 x.2.1 x.2.2.1 x.2.2.2.1 w) n) (.block 0 (.loop (cd (bodyOf f85) [1,1,0,1,0,0]))):=
  K_26 (O:=tabL []) (root:=(bodyOf f85)) (π:=[1,1,0,1,0,0]) (Li:=[(0,.sl),(1,.sl),(12,.int .i64),(13,.int .i64)]) (Lo:=[]) (Lr:=[(4,.bool)]) (S:=(fun n x w=>K_m K n x.1 x.2.1 x.2.2.1 x.2.2.2.1 w)) (K_co K) (K_ck K) rfl (Orc.nil _ _ _) (by kernel_rfl) (fun _ _=>by kernel_rfl) (fun _ _ _=>by kernel_rfl) n
noncomputable def K_b0 (K:Nat):SE:=stmt [(0,.sl),(1,.sl),(12,.int .i64),(13,.int .i64)] [] [(4,.bool)] [(4,6),(13,26)] (fun x w=>K_m K K x.1 x.2.1 x.2.2.1 x.2.2.2.1 w)
theorem K_hf(K:Nat)(R:Rg)(h:subRB [(4,6),(13,26)] R=true):(K_b0 K).Ok prog R (.block 0 (.loop (cd (bodyOf f85) [1,1,0,1,0,0]))):=K_1o (K_jm K K) (K_0 h)
theorem K_be:FunFacts prog 85 f85 (bodyOf f85) [(0,.sl),(1,.sl)] [(0,26)]:=⟨func85,by kernel_rfl,by kernel_rfl,by kernel_rfl,by kernel_rfl,by kernel_rfl⟩
theorem K_je(K:Nat)(x:TT [(0,.sl),(1,.sl)])(w:World)(y:TR [.bool])(w2:World)(h:K_17 K x.1 x.2.1 w=some (y,w2)):Calls prog 85 (encA [(0,.sl),(1,.sl)] x).toArray w (fun e w3=>e= .returned (resV (encR [.bool] y))∧w3=w2):=
  K_b (O:=tabL [([1,1,0,1],K_b0 K)]) (Lp:=[(0,.sl),(1,.sl)]) (Rt:=[.bool]) (S:=(fun x w=>K_17 K x.1 x.2.1 w)) (K_co K) (K_ck K) rfl K_be (Orc.cons (by kernel_rfl) (K_hf K [(0,26)] (by kernel_rfl)) (Orc.nil _ _ _)) (fun _ _=>by kernel_rfl) x w y w2 h
noncomputable def K_7y (K:Nat):CE:=funE [(0,.sl),(1,.sl)] [.bool] (fun x w=>K_17 K x.1 x.2.1 w)
theorem K_dm(K:Nat):(K_7y K).Ok prog 85:=K_8 K_be fun x w y w2 h=>K_je K x w y w2 h
end Go.Sh

namespace Go.Sh
open Go.Fw Go.Proofs.Tryd
noncomputable def K_12m (K:Nat):List (Nat×CE):=[]
theorem K_9p(K:Nat):Env.Ok prog (tab (K_12m K)):=(Env.nil _)
noncomputable def K_11s (K:Nat):List (Nat×RE):=[(87,K_fi K),(61,K_2f K)]
theorem K_a1(K:Nat):REnv.Ok prog (tab (K_11s K)):=(REnv.cons (K_mb K) (REnv.cons (K_3h K) (REnv.nil _)))
noncomputable def K_2j (K:Nat) (rec:Sl→Int→Sl→Int→Addr→Int→Sl→Int→Int→Sl→Int→Int→World→Option ((Int×Unit)×World)) (l0:Sl) (x1:Int) (out5:Sl) (i6:Int) (s7:Addr) (w8:Int) (a26:Sl) (a27:Int) (a28:Int) (a33:Sl) (a34:Int) (a35:Int) (w:World):Option ((Int×Unit)×World):=
 if (decide (a35<a34))=true then((a33.a).bind fun p_12=>
 if (0:Int)≤a35∧a35<((a33.len:Nat):Int) then((ldA 5 (p_12.add ((Int.toNat a35)*5)) w).bind fun v_13=>
 bnd (newB z102 102 w) fun o_14 w_15=>
 if (v_13).size=5 then((stA o_14 v_13 w_15).bind fun w_16=>
 if (a35 != i6)=true then((ldI .i64 ((o_14.add 0).add 2) w_16.drew).bind fun v_17=>
 (ldI .i64 ((s7.add 0).add 2) w_16.drew).bind fun v_18=>
 (ldI .i64 ((o_14.add 0).add 2) w_16.drew).bind fun v_19=>
 (K_64 K (bits .xor .u8 (IntKind.u8.wrap v_18) (IntKind.u8.wrap v_19))).bind fun r_20=>
 (K_l K (bits .xor .u8 x1 (IntKind.u8.wrap v_17)) r_20.1).bind fun r_21=>
 (K_l K w8 r_21.1).bind fun r_22=>
 rec l0 x1 out5 i6 s7 r_22.1 a26 a27 a28 a33 a34 (IntKind.i64.wrap (a35+1)) w_16.drew) else(rec l0 x1 out5 i6 s7 w8 a26 a27 a28 a33 a34 (IntKind.i64.wrap (a35+1)) w_16)) else none) else none) else(some ((w8,()),w))
noncomputable def K_1v (K:Nat) (n:Nat):Sl→Int→Sl→Int→Addr→Int→Sl→Int→Int→Sl→Int→Int→World→Option ((Int×Unit)×World):=iter (fun _ _ _ _ _ _ _ _ _ _ _ _ _=>none) (K_2j K) n
noncomputable def K_5s (K:Nat) (rec:Sl→Int→Sl→Int→Sl→Int→Int→Sl→Int→Int→World→Option ((Unit)×World)) (l0:Sl) (x1:Int) (out5:Sl) (w8:Int) (a26:Sl) (a27:Int) (a28:Int) (a64:Sl) (a65:Int) (a66:Int) (w:World):Option ((Unit)×World):=
 if (decide (a66<a65))=true then((a64.a).bind fun p_26=>
 if (0:Int)≤a66∧a66<((a64.len:Nat):Int) then((ldI .u8 (p_26.add ((Int.toNat a66)*1)) w).bind fun v_27=>
 (out5.a).bind fun p_28=>
 if (0:Int)≤a66∧a66<((out5.len:Nat):Int) then((ldI .u8 (p_28.add ((Int.toNat a66)*1)) w.drew).bind fun v_29=>
 (K_l K w8 v_27).bind fun r_30=>
 (out5.a).bind fun p_31=>
 if (0:Int)≤a66∧a66<((out5.len:Nat):Int) then((stC (p_31.add ((Int.toNat a66)*1)) (.int .u8 (bits .xor .u8 v_29 r_30.1)) w.drew).bind fun w_32=>
 rec l0 x1 out5 w8 a26 a27 a28 a64 a65 (IntKind.i64.wrap (a66+1)) w_32) else none) else none) else none) else(some ((),w))
noncomputable def K_2g (K:Nat) (n:Nat):Sl→Int→Sl→Int→Sl→Int→Int→Sl→Int→Int→World→Option ((Unit)×World):=iter (fun _ _ _ _ _ _ _ _ _ _ _=>none) (K_5s K) n
noncomputable def K_5x (K:Nat) (rec:Sl→Int→Sl→Sl→Int→Int→World→Option ((Unit)×World)) (l0:Sl) (x1:Int) (out5:Sl) (a26:Sl) (a27:Int) (a28:Int) (w:World):Option ((Unit)×World):=
 if (decide (a28<a27))=true then((a26.a).bind fun p_7=>
 if (0:Int)≤a28∧a28<((a26.len:Nat):Int) then((ldA 5 (p_7.add ((Int.toNat a28)*5)) w).bind fun v_8=>
 bnd (newB z102 102 w) fun s_9 w_10=>
 if (v_8).size=5 then((stA s_9 v_8 w_10).bind fun w_11=>
 bnd (K_1v K K l0 x1 out5 a28 s_9 1 a26 a27 a28 l0 ((l0.len:Nat):Int) 0 w_11) fun y_23 w_24=>
 (ldS (s_9.add 4) w_24).bind fun v_25=>
 bnd (K_2g K K l0 x1 out5 y_23.1 a26 a27 a28 v_25 ((v_25.len:Nat):Int) 0 w_24) fun y_33 w_34=>
 rec l0 x1 out5 a26 a27 (IntKind.i64.wrap (a28+1)) w_34) else none) else none) else(some ((),w))
noncomputable def K_2d (K:Nat) (n:Nat):Sl→Int→Sl→Sl→Int→Int→World→Option ((Unit)×World):=iter (fun _ _ _ _ _ _ _=>none) (K_5x K) n
noncomputable def K_1c (K:Nat) (l0:Sl) (x1:Int) (w:World):Option ((Sl×Unit)×World):=
 (l0.a).bind fun p_1=>
 if (0:Int)≤0∧0<((l0.len:Nat):Int) then((ldI .i64 (((p_1.add (0*5)).add 0).add 1) w).bind fun v_2=>
 if (0:Int)≤v_2∧v_2≤((l0.cap:Nat):Int) then(((sla l0.a 0 l0.cap 5)).bind fun p_3=>
 if (0:Int)≤0∧0<((((Int.toNat (v_2)) - 0):Nat):Int) then((ldS ((p_3.add (0*5)).add 4) w).bind fun v_4=>
 bnd (mkS prog 23 (.int .i64 ((v_4.len:Nat):Int)) (.int .i64 ((v_4.len:Nat):Int)) w) fun s_5 w_6=>
 bnd (K_2d K K ⟨(sla l0.a 0 l0.cap 5),((Int.toNat (v_2)) - 0),(l0.cap - 0)⟩ x1 s_5 ⟨(sla l0.a 0 l0.cap 5),((Int.toNat (v_2)) - 0),(l0.cap - 0)⟩ ((((Int.toNat (v_2)) - 0):Nat):Int) 0 w_6) fun y_35 w_36=>
 some ((s_5,()),w_36)) else none) else none) else none
theorem K_tn(K:Nat)(n:Nat):StmtNOk prog [(0,.sl),(1,.int .u8),(5,.sl),(6,.int .i64),(7,.addr),(8,.int .u8),(26,.sl),(27,.int .i64),(28,.int .i64),(33,.sl),(34,.int .i64),(35,.int .i64)] [(8,.int .u8)] [(8,11),(35,63)] ((fun n x w=>K_1v K n x.1 x.2.1 x.2.2.1 x.2.2.2.1 x.2.2.2.2.1 x.2.2.2.2.2.1 x.2.2.2.2.2.2.1 x.2.2.2.2.2.2.2.1 x.2.2.2.2.2.2.2.2.1 x.2.2.2.2.2.2.2.2.2.1 x.2.2.2.2.2.2.2.2.2.2.1 x.2.2.2.2.2.2.2.2.2.2.2.1 w) n) (.block 2 (.loop (cd (bodyOf f58) [1,1,1,0,1,0,0,1,1,0,0,1,1,0,1,0,0]))):=
  K_4 (O:=tabL []) (root:=(bodyOf f58)) (π:=[1,1,1,0,1,0,0,1,1,0,0,1,1,0,1,0,0]) (Li:=[(0,.sl),(1,.int .u8),(5,.sl),(6,.int .i64),(7,.addr),(8,.int .u8),(26,.sl),(27,.int .i64),(28,.int .i64),(33,.sl),(34,.int .i64),(35,.int .i64)]) (Lo:=[(8,.int .u8)]) (S:=(fun n x w=>K_1v K n x.1 x.2.1 x.2.2.1 x.2.2.2.1 x.2.2.2.2.1 x.2.2.2.2.2.1 x.2.2.2.2.2.2.1 x.2.2.2.2.2.2.2.1 x.2.2.2.2.2.2.2.2.1 x.2.2.2.2.2.2.2.2.2.1 x.2.2.2.2.2.2.2.2.2.2.1 x.2.2.2.2.2.2.2.2.2.2.2.1 w)) (K_9p K) (K_a1 K) rfl (Orc.nil _ _ _) (by kernel_rfl) (fun _ _=>by kernel_rfl) (fun _ _ _=>by kernel_rfl) n
noncomputable def K_c2 (K:Nat):SE:=stmtN [(0,.sl),(1,.int .u8),(5,.sl),(6,.int .i64),(7,.addr),(8,.int .u8),(26,.sl),(27,.int .i64),(28,.int .i64),(33,.sl),(34,.int .i64),(35,.int .i64)] [(8,.int .u8)] [(8,11),(35,63)] (fun x w=>K_1v K K x.1 x.2.1 x.2.2.1 x.2.2.2.1 x.2.2.2.2.1 x.2.2.2.2.2.1 x.2.2.2.2.2.2.1 x.2.2.2.2.2.2.2.1 x.2.2.2.2.2.2.2.2.1 x.2.2.2.2.2.2.2.2.2.1 x.2.2.2.2.2.2.2.2.2.2.1 x.2.2.2.2.2.2.2.2.2.2.2.1 w)
theorem K_f7(K:Nat)(R:Rg)(h:subRB [(8,11),(35,63)] R=true):(K_c2 K).Ok prog R (.block 2 (.loop (cd (bodyOf f58) [1,1,1,0,1,0,0,1,1,0,0,1,1,0,1,0,0]))):=K_2 (K_tn K K) (K_0 h)
theorem K_ty(K:Nat)(n:Nat):StmtNOk prog [(0,.sl),(1,.int .u8),(5,.sl),(8,.int .u8),(26,.sl),(27,.int .i64),(28,.int .i64),(64,.sl),(65,.int .i64),(66,.int .i64)] [] [(11,13),(66,81)] ((fun n x w=>K_2g K n x.1 x.2.1 x.2.2.1 x.2.2.2.1 x.2.2.2.2.1 x.2.2.2.2.2.1 x.2.2.2.2.2.2.1 x.2.2.2.2.2.2.2.1 x.2.2.2.2.2.2.2.2.1 x.2.2.2.2.2.2.2.2.2.1 w) n) (.block 4 (.loop (cd (bodyOf f58) [1,1,1,0,1,0,0,1,1,0,0,1,1,1,1,0,0]))):=
  K_4 (O:=tabL []) (root:=(bodyOf f58)) (π:=[1,1,1,0,1,0,0,1,1,0,0,1,1,1,1,0,0]) (Li:=[(0,.sl),(1,.int .u8),(5,.sl),(8,.int .u8),(26,.sl),(27,.int .i64),(28,.int .i64),(64,.sl),(65,.int .i64),(66,.int .i64)]) (Lo:=[]) (S:=(fun n x w=>K_2g K n x.1 x.2.1 x.2.2.1 x.2.2.2.1 x.2.2.2.2.1 x.2.2.2.2.2.1 x.2.2.2.2.2.2.1 x.2.2.2.2.2.2.2.1 x.2.2.2.2.2.2.2.2.1 x.2.2.2.2.2.2.2.2.2.1 w)) (K_9p K) (K_a1 K) rfl (Orc.nil _ _ _) (by kernel_rfl) (fun _ _=>by kernel_rfl) (fun _ _ _=>by kernel_rfl) n
noncomputable def K_c8 (K:Nat):SE:=stmtN [(0,.sl),(1,.int .u8),(5,.sl),(8,.int .u8),(26,.sl),(27,.int .i64),(28,.int .i64),(64,.sl),(65,.int .i64),(66,.int .i64)] [] [(11,13),(66,81)] (fun x w=>K_2g K K x.1 x.2.1 x.2.2.1 x.2.2.2.1 x.2.2.2.2.1 x.2.2.2.2.2.1 x.2.2.2.2.2.2.1 x.2.2.2.2.2.2.2.1 x.2.2.2.2.2.2.2.2.1 x.2.2.2.2.2.2.2.2.2.1 w)
theorem K_fa(K:Nat)(R:Rg)(h:subRB [(11,13),(66,81)] R=true):(K_c8 K).Ok prog R (.block 4 (.loop (cd (bodyOf f58) [1,1,1,0,1,0,0,1,1,0,0,1,1,1,1,0,0]))):=K_2 (K_ty K K) (K_0 h)
theorem K_ug(K:Nat)(n:Nat):StmtNOk prog [(0,.sl),(1,.int .u8),(5,.sl),(26,.sl),(27,.int .i64),(28,.int .i64)] [] [(6,13),(28,82)] ((fun n x w=>K_2d K n x.1 x.2.1 x.2.2.1 x.2.2.2.1 x.2.2.2.2.1 x.2.2.2.2.2.1 w) n) (.block 0 (.loop (cd (bodyOf f58) [1,1,1,0,1,0,0]))):=
  K_4 (O:=tabL [([1,1,1,0,1,0,0,1,1,0,0,1,1,0,1],K_c2 K),([1,1,1,0,1,0,0,1,1,0,0,1,1,1,1],K_c8 K)]) (root:=(bodyOf f58)) (π:=[1,1,1,0,1,0,0]) (Li:=[(0,.sl),(1,.int .u8),(5,.sl),(26,.sl),(27,.int .i64),(28,.int .i64)]) (Lo:=[]) (S:=(fun n x w=>K_2d K n x.1 x.2.1 x.2.2.1 x.2.2.2.1 x.2.2.2.2.1 x.2.2.2.2.2.1 w)) (K_9p K) (K_a1 K) rfl (Orc.cons (by kernel_rfl) (K_f7 K [(6,13),(28,82)] (by kernel_rfl)) (Orc.cons (by kernel_rfl) (K_fa K [(6,13),(28,82)] (by kernel_rfl)) (Orc.nil _ _ _))) (by kernel_rfl) (fun _ _=>by kernel_rfl) (fun _ _ _=>by kernel_rfl) n
noncomputable def K_if (K:Nat):SE:=stmtN [(0,.sl),(1,.int .u8),(5,.sl),(26,.sl),(27,.int .i64),(28,.int .i64)] [] [(6,13),(28,82)] (fun x w=>K_2d K K x.1 x.2.1 x.2.2.1 x.2.2.2.1 x.2.2.2.2.1 x.2.2.2.2.2.1 w)
theorem K_pd(K:Nat)(R:Rg)(h:subRB [(6,13),(28,82)] R=true):(K_if K).Ok prog R (.block 0 (.loop (cd (bodyOf f58) [1,1,1,0,1,0,0]))):=K_2 (K_ug K K) (K_0 h)
theorem K_hp:FunFacts prog 58 f58 (bodyOf f58) [(0,.sl),(1,.int .u8)] [(0,83)]:=⟨func58,by kernel_rfl,by kernel_rfl,by kernel_rfl,by kernel_rfl,by kernel_rfl⟩
theorem K_uh(K:Nat)(x:TT [(0,.sl),(1,.int .u8)])(w:World)(y:TR [.sl])(w2:World)(h:K_1c K x.1 x.2.1 w=some (y,w2)):Calls prog 58 (encA [(0,.sl),(1,.int .u8)] x).toArray w (fun e w3=>e= .returned (resV (encR [.sl] y))∧w3=w2):=
  K_b (O:=tabL [([1,1,1,0,1],K_if K),([1,1,1,0,1,0,0,1,1,0,0,1,1,0,1],K_c2 K),([1,1,1,0,1,0,0,1,1,0,0,1,1,1,1],K_c8 K)]) (Lp:=[(0,.sl),(1,.int .u8)]) (Rt:=[.sl]) (S:=(fun x w=>K_1c K x.1 x.2.1 w)) (K_9p K) (K_a1 K) rfl K_hp (Orc.cons (by kernel_rfl) (K_pd K [(0,83)] (by kernel_rfl)) (Orc.cons (by kernel_rfl) (K_f7 K [(0,83)] (by kernel_rfl)) (Orc.cons (by kernel_rfl) (K_fa K [(0,83)] (by kernel_rfl)) (Orc.nil _ _ _)))) (fun _ _=>by kernel_rfl) x w y w2 h
noncomputable def K_aq (K:Nat):CE:=funE [(0,.sl),(1,.int .u8)] [.sl] (fun x w=>K_1c K x.1 x.2.1 w)
theorem K_fn(K:Nat):(K_aq K).Ok prog 58:=K_8 K_hp fun x w y w2 h=>K_uh K x w y w2 h
noncomputable def K_1c7 (K:Nat):List (Nat×CE):=[(58,K_aq K),(85,K_7y K),(52,K_vm K)]
theorem K_sv(K:Nat):Env.Ok prog (tab (K_1c7 K)):=(Env.cons (K_fn K) (Env.cons (K_dm K) (Env.cons (K_19n K) (Env.nil _))))
noncomputable def K_1a9 (K:Nat):List (Nat×RE):=[]
theorem K_sf(K:Nat):REnv.Ok prog (tab (K_1a9 K)):=(REnv.nil _)
noncomputable def K_5d (K:Nat) (rec:Sl→Sl→Int→Int→World→Option ((Out (Unit) (Int×Unit))×World)) (l0:Sl) (a12:Sl) (a13:Int) (a14:Int) (w:World):Option ((Out (Unit) (Int×Unit))×World):=
 if (decide (a14<a13))=true then((a12.a).bind fun p_3=>
 if (0:Int)≤a14∧a14<((a12.len:Nat):Int) then((ldA 5 (p_3.add ((Int.toNat a14)*5)) w).bind fun v_4=>
 bnd (newB z102 102 w) fun s_5 w_6=>
 if (v_4).size=5 then((stA s_5 v_4 w_6).bind fun w_7=>
 (ldI .i64 ((s_5.add 0).add 2) w_7.drew).bind fun v_8=>
 (ldS (s_5.add 4) w_7.drew).bind fun v_9=>
 bnd (K_1c K l0 (IntKind.u8.wrap v_8) w_7.drew) fun r_10 w_11=>
 (ldS (s_5.add 4) w_11).bind fun v_12=>
 sameK (.slice v_9.a v_9.len v_9.cap) (.slice v_12.a v_12.len v_12.cap) (bnd (K_17 K r_10.1 v_9 w_11) fun r_13 w_14=>
 if (!r_13.1)=true then(some (.ret (117,()),w_14)) else(rec l0 a12 a13 (IntKind.i64.wrap (a14+1)) w_14))) else none) else none) else(some (.norm (),w))
noncomputable def K_46 (K:Nat) (n:Nat):Sl→Sl→Int→Int→World→Option ((Out (Unit) (Int×Unit))×World):=iter (fun _ _ _ _ _=>none) (K_5d K) n
noncomputable def K_ex (K:Nat) (l0:Sl) (w:World):Option ((Int×Unit)×World):=
 (l0.a).bind fun p_1=>
 if (0:Int)≤0∧0<((l0.len:Nat):Int) then((ldI .i64 (((p_1.add (0*5)).add 0).add 1) w).bind fun v_2=>
 if (0:Int)≤v_2∧v_2≤((l0.len:Nat):Int) then(bnd (K_46 K K l0 ⟨(sla l0.a (Int.toNat (v_2)) l0.cap 5),(l0.len - (Int.toNat (v_2))),(l0.cap - (Int.toNat (v_2)))⟩ (((l0.len - (Int.toNat (v_2))):Nat):Int) 0 w) fun y_15 w_16=>
 (match y_15 with
 | .norm z_17n=>(bnd (K_1c K l0 0 w_16) fun r_18 w_19=>
 (l0.a).bind fun p_20=>
 if (0:Int)≤0∧0<((l0.len:Nat):Int) then((l0.a).bind fun p_21=>
 if (0:Int)≤0∧0<((l0.len:Nat):Int) then((ldI .u16 (((p_20.add (0*5)).add 0).add 0) w_19.drew).bind fun v_22=>
 (ldI .i64 (((p_21.add (0*5)).add 0).add 3) w_19.drew).bind fun v_23=>
 if (0:Int)≤v_23∧v_23≤((r_18.1.cap:Nat):Int) then(bnd (K_ek K v_22 ⟨(sla r_18.1.a 0 r_18.1.cap 1),((Int.toNat (v_23)) - 0),(r_18.1.cap - 0)⟩ w_19.drew) fun r_24 w_25=>
 bnd (K_17 K r_24.1 r_18.1 w_25) fun r_26 w_27=>
 if (!r_26.1)=true then(some ((117,()),w_27)) else(some ((0,()),w_27))) else none) else none) else none)
 | .ret z_17r=>(some ((z_17r.1,()),w_16)))) else none) else none
theorem K_132(K:Nat)(n:Nat):StmtOk prog [(0,.sl),(12,.sl),(13,.int .i64),(14,.int .i64)] [] [(2,.int .i64)] [(2,3),(4,5),(14,29)] ((fun n x w=>K_46 K n x.1 x.2.1 x.2.2.1 x.2.2.2.1 w) n) (.block 0 (.loop (cd (bodyOf f86) [1,0,1,0,0]))):=
  K_26 (O:=tabL []) (root:=(bodyOf f86)) (π:=[1,0,1,0,0]) (Li:=[(0,.sl),(12,.sl),(13,.int .i64),(14,.int .i64)]) (Lo:=[]) (Lr:=[(2,.int .i64)]) (S:=(fun n x w=>K_46 K n x.1 x.2.1 x.2.2.1 x.2.2.2.1 w)) (K_sv K) (K_sf K) rfl (Orc.nil _ _ _) (by kernel_rfl) (fun _ _=>by kernel_rfl) (fun _ _ _=>by kernel_rfl) n
noncomputable def K_o4 (K:Nat):SE:=stmt [(0,.sl),(12,.sl),(13,.int .i64),(14,.int .i64)] [] [(2,.int .i64)] [(2,3),(4,5),(14,29)] (fun x w=>K_46 K K x.1 x.2.1 x.2.2.1 x.2.2.2.1 w)
theorem K_wv(K:Nat)(R:Rg)(h:subRB [(2,3),(4,5),(14,29)] R=true):(K_o4 K).Ok prog R (.block 0 (.loop (cd (bodyOf f86) [1,0,1,0,0]))):=K_1o (K_132 K K) (K_0 h)
theorem K_np:FunFacts prog 86 f86 (bodyOf f86) [(0,.sl)] [(0,47)]:=⟨func86,by kernel_rfl,by kernel_rfl,by kernel_rfl,by kernel_rfl,by kernel_rfl⟩
theorem K_11k(K:Nat)(x:TT [(0,.sl)])(w:World)(y:TR [.int .i64])(w2:World)(h:K_ex K x.1 w=some (y,w2)):Calls prog 86 (encA [(0,.sl)] x).toArray w (fun e w3=>e= .returned (resV (encR [.int .i64] y))∧w3=w2):=
  K_b (O:=tabL [([1,0,1],K_o4 K)]) (Lp:=[(0,.sl)]) (Rt:=[.int .i64]) (S:=(fun x w=>K_ex K x.1 w)) (K_sv K) (K_sf K) rfl K_np (Orc.cons (by kernel_rfl) (K_wv K [(0,47)] (by kernel_rfl)) (Orc.nil _ _ _)) (fun _ _=>by kernel_rfl) x w y w2 h
noncomputable def K_vb (K:Nat):CE:=funE [(0,.sl)] [.int .i64] (fun x w=>K_ex K x.1 w)
theorem K_193(K:Nat):(K_vb K).Ok prog 86:=K_8 K_np fun x w y w2 h=>K_11k K x w y w2 h
noncomputable def K_19l (K:Nat):List (Nat×CE):=[(74,K_p0 K),(85,K_7y K),(86,K_vb K)]
theorem K_9z(K:Nat):Env.Ok prog (tab (K_19l K)):=(Env.cons (K_13f K) (Env.cons (K_dm K) (Env.cons (K_193 K) (Env.nil _))))
noncomputable def K_18b (K:Nat):List (Nat×RE):=[]
theorem K_a3(K:Nat):REnv.Ok prog (tab (K_18b K)):=(REnv.nil _)
noncomputable def K_97 (K:Nat) (rec:Sl→Sl→Int→Int→World→Option ((Out (Sl×Unit) (Sl×Int×Unit))×World)) (all4:Sl) (a18:Sl) (a19:Int) (a20:Int) (w:World):Option ((Out (Sl×Unit) (Sl×Int×Unit))×World):=
 if (decide (a20<a19))=true then((a18.a).bind fun p_1=>
 if (0:Int)≤a20∧a20<((a18.len:Nat):Int) then((ldStr (p_1.add ((Int.toNat a20)*1)) w).bind fun v_2=>
 bnd (K_9d K v_2 w) fun r_3 w_4=>
 bnd (newB z102 102 w_4) fun s_5 w_6=>
 if (r_3.1).size=5 then((stA s_5 r_3.1 w_6).bind fun w_7=>
 if (r_3.2.2.1 != 0)=true then(some (.ret (⟨none,0,0⟩,r_3.2.2.1,()),w_7)) else((ldA 5 s_5 w_7).bind fun v_8=>
 bnd (bldS prog 108 1 #[(0,(.agg v_8))] w_7) fun s_9 w_10=>
 bnd (apd prog 108 108 (.slice all4.a all4.len all4.cap) (.slice s_9.a s_9.len s_9.cap) w_10) fun s_11 w_12=>
 rec s_11 a18 a19 (IntKind.i64.wrap (a20+1)) w_12)) else none) else none) else(some (.norm (all4,()),w))
noncomputable def K_y (K:Nat) (n:Nat):Sl→Sl→Int→Int→World→Option ((Out (Sl×Unit) (Sl×Int×Unit))×World):=iter (fun _ _ _ _ _=>none) (K_97 K) n
noncomputable def K_8d (K:Nat) (rec:Sl→Sl→Int→Int→World→Option ((Out (Unit) (Sl×Int×Unit))×World)) (all4:Sl) (a41:Sl) (a42:Int) (a43:Int) (w:World):Option ((Out (Unit) (Sl×Int×Unit))×World):=
 if (decide (a43<a42))=true then((a41.a).bind fun p_16=>
 if (0:Int)≤a43∧a43<((a41.len:Nat):Int) then((ldA 5 (p_16.add ((Int.toNat a43)*5)) w).bind fun v_17=>
 bnd (newB z102 102 w) fun s_18 w_19=>
 if (v_17).size=5 then((stA s_18 v_17 w_19).bind fun w_20=>
 (all4.a).bind fun p_21=>
 if (0:Int)≤0∧0<((all4.len:Nat):Int) then((ldI .u16 ((s_18.add 0).add 0) w_20.drew).bind fun v_22=>
 (ldI .u16 (((p_21.add (0*5)).add 0).add 0) w_20.drew).bind fun v_23=>
 if (v_22 != v_23)=true then(some (.ret (⟨none,0,0⟩,115,()),w_20.drew)) else((all4.a).bind fun p_24=>
 if (0:Int)≤0∧0<((all4.len:Nat):Int) then((ldI .i64 ((s_18.add 0).add 1) w_20.drew).bind fun v_25=>
 (ldI .i64 (((p_24.add (0*5)).add 0).add 1) w_20.drew).bind fun v_26=>
 if (v_25 != v_26)=true then(some (.ret (⟨none,0,0⟩,115,()),w_20.drew)) else((all4.a).bind fun p_27=>
 if (0:Int)≤0∧0<((all4.len:Nat):Int) then((ldI .i64 ((s_18.add 0).add 3) w_20.drew).bind fun v_28=>
 (ldI .i64 (((p_27.add (0*5)).add 0).add 3) w_20.drew).bind fun v_29=>
 if (v_28 != v_29)=true then(some (.ret (⟨none,0,0⟩,115,()),w_20.drew)) else(rec all4 a41 a42 (IntKind.i64.wrap (a43+1)) w_20.drew)) else none)) else none)) else none) else none) else none) else(some (.norm (),w))
noncomputable def K_2b (K:Nat) (n:Nat):Sl→Sl→Int→Int→World→Option ((Out (Unit) (Sl×Int×Unit))×World):=iter (fun _ _ _ _ _=>none) (K_8d K) n
noncomputable def K_4m (K:Nat) (s15:Addr) (old16:Addr) (there17:Bool) (w:World):Option ((Bool×Unit)×World):=
 if there17=true then((ldS (old16.add 4) w).bind fun v_50=>
 (ldS (s15.add 4) w).bind fun v_51=>
 bnd (K_17 K v_50 v_51 w) fun r_52 w_53=>
 some (((!r_52.1),()),w_53)) else(some ((false,()),w))
noncomputable def K_8m (K:Nat) (rec:Value→Sl→Sl→Int→Int→World→Option ((Out (Sl×Unit) (Sl×Int×Unit))×World)) (seen12:Value) (l13:Sl) (a80:Sl) (a81:Int) (a82:Int) (w:World):Option ((Out (Sl×Unit) (Sl×Int×Unit))×World):=
 if (decide (a82<a81))=true then((a80.a).bind fun p_35=>
 if (0:Int)≤a82∧a82<((a80.len:Nat):Int) then((ldA 5 (p_35.add ((Int.toNat a82)*5)) w).bind fun v_36=>
 bnd (newB z102 102 w) fun s_37 w_38=>
 if (v_36).size=5 then((stA s_37 v_36 w_38).bind fun w_39=>
 (ldI .i64 ((s_37.add 0).add 2) w_39).bind fun v_40=>
 bnd (lkp prog 133 seen12 (.int .i64 v_40) true w_39) fun v_41 w_42=>
 tupX v_41 0 fun v_43=>
 (asA v_43).bind fun v_44=>
 tupX v_41 1 fun v_45=>
 (asB v_45).bind fun v_46=>
 bnd (newB z102 102 w_42) fun old_47 w_48=>
 if (v_44).size=5 then((stA old_47 v_44 w_48).bind fun w_49=>
 bnd (K_4m K s_37 old_47 v_46 w_49) fun y_54 w_55=>
 if y_54.1=true then(some (.ret (⟨none,0,0⟩,116,()),w_55)) else(if (!v_46)=true then((ldI .i64 ((s_37.add 0).add 2) w_55).bind fun v_56=>
 (ldA 5 s_37 w_55).bind fun v_57=>
 bnd (mput prog 133 seen12 (.int .i64 v_56) (.agg v_57) w_55) fun _ w_58=>
 (ldA 5 s_37 w_58).bind fun v_59=>
 bnd (bldS prog 108 1 #[(0,(.agg v_59))] w_58) fun s_60 w_61=>
 bnd (apd prog 108 108 (.slice l13.a l13.len l13.cap) (.slice s_60.a s_60.len s_60.cap) w_61) fun s_62 w_63=>
 rec seen12 s_62 a80 a81 (IntKind.i64.wrap (a82+1)) w_63) else(rec seen12 l13 a80 a81 (IntKind.i64.wrap (a82+1)) w_55))) else none) else none) else none) else(some (.norm (l13,()),w))
noncomputable def K_h (K:Nat) (n:Nat):Value→Sl→Sl→Int→Int→World→Option ((Out (Sl×Unit) (Sl×Int×Unit))×World):=iter (fun _ _ _ _ _ _=>none) (K_8m K) n
noncomputable def K_ai (K:Nat) (texts0:Sl) (w:World):Option ((Sl×Int×Unit)×World):=
 bnd (K_y K K ⟨none,0,0⟩ texts0 ((texts0.len:Nat):Int) 0 w) fun y_13 w_14=>
 (match y_13 with
 | .norm z_15n=>(if (((z_15n.1.len:Nat):Int) == 0)=true then(some ((⟨none,0,0⟩,114,()),w_14)) else(bnd (K_2b K K z_15n.1 z_15n.1 ((z_15n.1.len:Nat):Int) 0 w_14) fun y_30 w_31=>
 (match y_30 with
 | .norm z_32n=>(bnd (mmk prog 133 none w_31) fun m_33 w_34=>
 bnd (K_h K K m_33 ⟨none,0,0⟩ z_15n.1 ((z_15n.1.len:Nat):Int) 0 w_34) fun y_64 w_65=>
 (match y_64 with
 | .norm z_66n=>((z_66n.1.a).bind fun p_67=>
 if (0:Int)≤0∧0<((z_66n.1.len:Nat):Int) then((ldI .i64 (((p_67.add (0*5)).add 0).add 1) w_65).bind fun v_68=>
 if (decide (((z_66n.1.len:Nat):Int)<v_68))=true then(some ((⟨none,0,0⟩,114,()),w_65)) else(bnd (K_ex K z_66n.1 w_65) fun r_69 w_70=>
 some ((z_66n.1,r_69.1,()),w_70))) else none)
 | .ret z_66r=>(some ((z_66r.1,z_66r.2.1,()),w_65))))
 | .ret z_32r=>(some ((z_32r.1,z_32r.2.1,()),w_31)))))
 | .ret z_15r=>(some ((z_15r.1,z_15r.2.1,()),w_14)))
theorem K_10w(K:Nat)(n:Nat):StmtOk prog [(4,.sl),(18,.sl),(19,.int .i64),(20,.int .i64)] [(4,.sl)] [(2,.sl),(3,.int .i64)] [(2,5),(6,10),(20,38)] ((fun n x w=>K_y K n x.1 x.2.1 x.2.2.1 x.2.2.2.1 w) n) (.block 0 (.loop (cd (bodyOf f57) [1,1,0,1,0,0]))):=
  K_26 (O:=tabL []) (root:=(bodyOf f57)) (π:=[1,1,0,1,0,0]) (Li:=[(4,.sl),(18,.sl),(19,.int .i64),(20,.int .i64)]) (Lo:=[(4,.sl)]) (Lr:=[(2,.sl),(3,.int .i64)]) (S:=(fun n x w=>K_y K n x.1 x.2.1 x.2.2.1 x.2.2.2.1 w)) (K_9z K) (K_a3 K) rfl (Orc.nil _ _ _) (by kernel_rfl) (fun _ _=>by kernel_rfl) (fun _ _ _=>by kernel_rfl) n
noncomputable def K_m6 (K:Nat):SE:=stmt [(4,.sl),(18,.sl),(19,.int .i64),(20,.int .i64)] [(4,.sl)] [(2,.sl),(3,.int .i64)] [(2,5),(6,10),(20,38)] (fun x w=>K_y K K x.1 x.2.1 x.2.2.1 x.2.2.2.1 w)
theorem K_v5(K:Nat)(R:Rg)(h:subRB [(2,5),(6,10),(20,38)] R=true):(K_m6 K).Ok prog R (.block 0 (.loop (cd (bodyOf f57) [1,1,0,1,0,0]))):=K_1o (K_10w K K) (K_0 h)
theorem K_10m(K:Nat)(n:Nat):StmtOk prog [(4,.sl),(41,.sl),(42,.int .i64),(43,.int .i64)] [] [(2,.sl),(3,.int .i64)] [(2,4),(11,12),(43,79)] ((fun n x w=>K_2b K n x.1 x.2.1 x.2.2.1 x.2.2.2.1 w) n) (.block 2 (.loop (cd (bodyOf f57) [1,1,1,1,0,1,0,0]))):=
  K_26 (O:=tabL []) (root:=(bodyOf f57)) (π:=[1,1,1,1,0,1,0,0]) (Li:=[(4,.sl),(41,.sl),(42,.int .i64),(43,.int .i64)]) (Lo:=[]) (Lr:=[(2,.sl),(3,.int .i64)]) (S:=(fun n x w=>K_2b K n x.1 x.2.1 x.2.2.1 x.2.2.2.1 w)) (K_9z K) (K_a3 K) rfl (Orc.nil _ _ _) (by kernel_rfl) (fun _ _=>by kernel_rfl) (fun _ _ _=>by kernel_rfl) n
noncomputable def K_mn (K:Nat):SE:=stmt [(4,.sl),(41,.sl),(42,.int .i64),(43,.int .i64)] [] [(2,.sl),(3,.int .i64)] [(2,4),(11,12),(43,79)] (fun x w=>K_2b K K x.1 x.2.1 x.2.2.1 x.2.2.2.1 w)
theorem K_u9(K:Nat)(R:Rg)(h:subRB [(2,4),(11,12),(43,79)] R=true):(K_mn K).Ok prog R (.block 2 (.loop (cd (bodyOf f57) [1,1,1,1,0,1,0,0]))):=K_1o (K_10m K K) (K_0 h)
theorem K_zy(K:Nat):StmtNOk prog [(15,.addr),(16,.addr),(17,.bool)] [(102,.bool)] [(94,103)] (fun x w=>K_4m K x.1 x.2.1 x.2.2.1 w) (cd (bodyOf f57) [1,1,1,1,1,1,1,0,1,0,0,1,1,0,0,1,1,0,0]):=
  K_g (O:=tabL []) (root:=(bodyOf f57)) (π:=[1,1,1,1,1,1,1,0,1,0,0,1,1,0,0,1,1,0,0]) (K_9z K) (K_a3 K) rfl (Orc.nil _ _ _) (by kernel_rfl) (fun _ _=>by kernel_rfl)
noncomputable def K_ff (K:Nat):SE:=stmtN [(15,.addr),(16,.addr),(17,.bool)] [(102,.bool)] [(94,103)] (fun x w=>K_4m K x.1 x.2.1 x.2.2.1 w)
theorem K_hx(K:Nat)(R:Rg)(h:subRB [(94,103)] R=true):(K_ff K).Ok prog R (cd (bodyOf f57) [1,1,1,1,1,1,1,0,1,0,0,1,1,0,0,1,1,0,0]):=K_2 (K_zy K) (K_0 h)
theorem K_zx(K:Nat)(n:Nat):StmtOk prog [(12,.val),(13,.sl),(80,.sl),(81,.int .i64),(82,.int .i64)] [(13,.sl)] [(2,.sl),(3,.int .i64)] [(2,4),(13,14),(15,18),(82,115)] ((fun n x w=>K_h K n x.1 x.2.1 x.2.2.1 x.2.2.2.1 x.2.2.2.2.1 w) n) (.block 4 (.loop (cd (bodyOf f57) [1,1,1,1,1,1,1,0,1,0,0]))):=
  K_26 (O:=tabL [([1,1,1,1,1,1,1,0,1,0,0,1,1,0,0,1,1,0,0],K_ff K)]) (root:=(bodyOf f57)) (π:=[1,1,1,1,1,1,1,0,1,0,0]) (Li:=[(12,.val),(13,.sl),(80,.sl),(81,.int .i64),(82,.int .i64)]) (Lo:=[(13,.sl)]) (Lr:=[(2,.sl),(3,.int .i64)]) (S:=(fun n x w=>K_h K n x.1 x.2.1 x.2.2.1 x.2.2.2.1 x.2.2.2.2.1 w)) (K_9z K) (K_a3 K) rfl (Orc.cons (by kernel_rfl) (K_hx K [(2,4),(13,14),(15,18),(82,115)] (by kernel_rfl)) (Orc.nil _ _ _)) (by kernel_rfl) (fun _ _=>by kernel_rfl) (fun _ _ _=>by kernel_rfl) n
noncomputable def K_mf (K:Nat):SE:=stmt [(12,.val),(13,.sl),(80,.sl),(81,.int .i64),(82,.int .i64)] [(13,.sl)] [(2,.sl),(3,.int .i64)] [(2,4),(13,14),(15,18),(82,115)] (fun x w=>K_h K K x.1 x.2.1 x.2.2.1 x.2.2.2.1 x.2.2.2.2.1 w)
theorem K_ur(K:Nat)(R:Rg)(h:subRB [(2,4),(13,14),(15,18),(82,115)] R=true):(K_mf K).Ok prog R (.block 4 (.loop (cd (bodyOf f57) [1,1,1,1,1,1,1,0,1,0,0]))):=K_1o (K_zx K K) (K_0 h)
theorem K_lx:FunFacts prog 57 f57 (bodyOf f57) [(0,.sl)] [(0,126)]:=⟨func57,by kernel_rfl,by kernel_rfl,by kernel_rfl,by kernel_rfl,by kernel_rfl⟩
theorem K_10v(K:Nat)(x:TT [(0,.sl)])(w:World)(y:TR [.sl,.int .i64])(w2:World)(h:K_ai K x.1 w=some (y,w2)):Calls prog 57 (encA [(0,.sl)] x).toArray w (fun e w3=>e= .returned (resV (encR [.sl,.int .i64] y))∧w3=w2):=
  K_b (O:=tabL [([1,1,0,1],K_m6 K),([1,1,1,1,0,1],K_mn K),([1,1,1,1,1,1,1,0,1],K_mf K),([1,1,1,1,1,1,1,0,1,0,0,1,1,0,0,1,1,0,0],K_ff K)]) (Lp:=[(0,.sl)]) (Rt:=[.sl,.int .i64]) (S:=(fun x w=>K_ai K x.1 w)) (K_9z K) (K_a3 K) rfl K_lx (Orc.cons (by kernel_rfl) (K_v5 K [(0,126)] (by kernel_rfl)) (Orc.cons (by kernel_rfl) (K_u9 K [(0,126)] (by kernel_rfl)) (Orc.cons (by kernel_rfl) (K_ur K [(0,126)] (by kernel_rfl)) (Orc.cons (by kernel_rfl) (K_hx K [(0,126)] (by kernel_rfl)) (Orc.nil _ _ _))))) (fun _ _=>by kernel_rfl) x w y w2 h
noncomputable def K_j9 (K:Nat):CE:=funE [(0,.sl)] [.sl,.int .i64] (fun x w=>K_ai K x.1 w)
theorem K_tj(K:Nat):(K_j9 K).Ok prog 57:=K_8 K_lx fun x w y w2 h=>K_10v K x w y w2 h
noncomputable def K_19e (K:Nat):List (Nat×CE):=[(57,K_j9 K),(58,K_aq K)]
theorem K_15q(K:Nat):Env.Ok prog (tab (K_19e K)):=(Env.cons (K_tj K) (Env.cons (K_fn K) (Env.nil _)))
noncomputable def K_18g (K:Nat):List (Nat×RE):=[]
theorem K_14e(K:Nat):REnv.Ok prog (tab (K_18g K)):=(REnv.nil _)
noncomputable def K_ag (K:Nat) (shares0:Sl) (w:World):Option ((Sl×Int×Unit)×World):=
 bnd (K_ai K shares0 w) fun r_1 w_2=>
 if (r_1.2.1 != 0)=true then(some ((⟨none,0,0⟩,r_1.2.1,()),w_2)) else(bnd (K_1c K r_1.1 0 w_2) fun r_3 w_4=>
 (r_1.1.a).bind fun p_5=>
 if (0:Int)≤0∧0<((r_1.1.len:Nat):Int) then((r_1.1.a).bind fun p_6=>
 if (0:Int)≤0∧0<((r_1.1.len:Nat):Int) then((ldI .i64 (((p_5.add (0*5)).add 0).add 3) w_4.drew).bind fun v_7=>
 (ldI .i64 (((p_6.add (0*5)).add 0).add 3) w_4.drew).bind fun v_8=>
 if (0:Int)≤v_8∧v_8≤((r_3.1.cap:Nat):Int) then(if (0:Int)≤v_7∧v_7≤(((Int.toNat (v_8)):Nat):Int) then(some ((⟨(sla r_3.1.a 0 (Int.toNat (v_8)) 1),((Int.toNat (v_7)) - 0),((Int.toNat (v_8)) - 0)⟩,0,()),w_4.drew)) else none) else none) else none) else none)
theorem K_ml:FunFacts prog 28 f28 (bodyOf f28) [(0,.sl)] [(0,29)]:=⟨func28,by kernel_rfl,by kernel_rfl,by kernel_rfl,by kernel_rfl,by kernel_rfl⟩
theorem K_10o(K:Nat)(x:TT [(0,.sl)])(w:World)(y:TR [.sl,.int .i64])(w2:World)(h:K_ag K x.1 w=some (y,w2)):Calls prog 28 (encA [(0,.sl)] x).toArray w (fun e w3=>e= .returned (resV (encR [.sl,.int .i64] y))∧w3=w2):=
  K_b (O:=tabL []) (Lp:=[(0,.sl)]) (Rt:=[.sl,.int .i64]) (S:=(fun x w=>K_ag K x.1 w)) (K_15q K) (K_14e K) rfl K_ml (Orc.nil _ _ _) (fun _ _=>by kernel_rfl) x w y w2 h
noncomputable def K_sa (K:Nat):CE:=funE [(0,.sl)] [.sl,.int .i64] (fun x w=>K_ag K x.1 w)
theorem K_167(K:Nat):(K_sa K).Ok prog 28:=K_8 K_ml fun x w y w2 h=>K_10o K x w y w2 h
noncomputable def K_15a (K:Nat):List (Nat×CE):=[(57,K_j9 K),(58,K_aq K),(55,K_i7 K)]
theorem K_m9(K:Nat):Env.Ok prog (tab (K_15a K)):=(Env.cons (K_tj K) (Env.cons (K_fn K) (Env.cons (K_tw K) (Env.nil _))))
noncomputable def K_14h (K:Nat):List (Nat×RE):=[]
theorem K_ly(K:Nat):REnv.Ok prog (tab (K_14h K)):=(REnv.nil _)
noncomputable def K_8b (K:Nat) (index0:Int) (w:World):Option ((Bool×Unit)×World):=
 if (decide (index0<1))=true then(some ((true,()),w)) else(some (((decide (index0 > 255)),()),w))
noncomputable def K_9c (K:Nat) (index0:Int) (shares1:Sl) (w:World):Option ((ByteArray×Int×Unit)×World):=
 bnd (K_8b K index0 w) fun y_1 w_2=>
 if y_1.1=true then(some ((str0,110,()),w_2)) else(bnd (K_ai K shares1 w_2) fun r_3 w_4=>
 if (r_3.2.1 != 0)=true then(some ((str0,r_3.2.1,()),w_4)) else((r_3.1.a).bind fun p_5=>
 if (0:Int)≤0∧0<((r_3.1.len:Nat):Int) then((ldA 5 (p_5.add (0*5)) w_4).bind fun v_6=>
 bnd (newB z102 102 w_4) fun s_7 w_8=>
 if (v_6).size=5 then((stA s_7 v_6 w_8).bind fun w_9=>
 (stC ((s_7.add 0).add 2) (.int .i64 index0) w_9).bind fun w_10=>
 bnd (K_1c K r_3.1 (IntKind.u8.wrap index0) w_10) fun r_11 w_12=>
 (stC (s_7.add 4) (.slice r_11.1.a r_11.1.len r_11.1.cap) w_12).bind fun w_13=>
 (ldA 5 s_7 w_13).bind fun v_14=>
 bnd (K_5g K v_14 w_13) fun r_15 w_16=>
 some ((r_15.1,0,()),w_16)) else none) else none))
theorem K_vp(K:Nat):StmtNOk prog [(0,.int .i64)] [(14,.bool)] [(9,15)] (fun x w=>K_8b K x.1 w) (cd (bodyOf f29) [1,0,0]):=
  K_g (O:=tabL []) (root:=(bodyOf f29)) (π:=[1,0,0]) (K_m9 K) (K_ly K) rfl (Orc.nil _ _ _) (by kernel_rfl) (fun _ _=>by kernel_rfl)
noncomputable def K_j1 (K:Nat):SE:=stmtN [(0,.int .i64)] [(14,.bool)] [(9,15)] (fun x w=>K_8b K x.1 w)
theorem K_r3(K:Nat)(R:Rg)(h:subRB [(9,15)] R=true):(K_j1 K).Ok prog R (cd (bodyOf f29) [1,0,0]):=K_2 (K_vp K) (K_0 h)
theorem K_ij:FunFacts prog 29 f29 (bodyOf f29) [(0,.int .i64),(1,.sl)] [(0,36)]:=⟨func29,by kernel_rfl,by kernel_rfl,by kernel_rfl,by kernel_rfl,by kernel_rfl⟩
theorem K_wx(K:Nat)(x:TT [(0,.int .i64),(1,.sl)])(w:World)(y:TR [.str,.int .i64])(w2:World)(h:K_9c K x.1 x.2.1 w=some (y,w2)):Calls prog 29 (encA [(0,.int .i64),(1,.sl)] x).toArray w (fun e w3=>e= .returned (resV (encR [.str,.int .i64] y))∧w3=w2):=
  K_b (O:=tabL [([1,0,0],K_j1 K)]) (Lp:=[(0,.int .i64),(1,.sl)]) (Rt:=[.str,.int .i64]) (S:=(fun x w=>K_9c K x.1 x.2.1 w)) (K_m9 K) (K_ly K) rfl K_ij (Orc.cons (by kernel_rfl) (K_r3 K [(0,36)] (by kernel_rfl)) (Orc.nil _ _ _)) (fun _ _=>by kernel_rfl) x w y w2 h
noncomputable def K_o3 (K:Nat):CE:=funE [(0,.int .i64),(1,.sl)] [.str,.int .i64] (fun x w=>K_9c K x.1 x.2.1 w)
theorem K_11l(K:Nat):(K_o3 K).Ok prog 29:=K_8 K_ij fun x w y w2 h=>K_wx K x w y w2 h
noncomputable def K_10d (K:Nat):List (Nat×CE):=[(20,K_m8 K)]
theorem K_in(K:Nat):Env.Ok prog (tab (K_10d K)):=(Env.cons (K_10u K) (Env.nil _))
noncomputable def K_10e (K:Nat):List (Nat×RE):=[]
theorem K_ig(K:Nat):REnv.Ok prog (tab (K_10e K)):=(REnv.nil _)
noncomputable def K_5e (K:Nat) (rec:Int→Sl→Int→World→Option ((Out (Unit) (Bool×Unit))×World)) (n5:Int) (all6:Sl) (i7:Int) (w:World):Option ((Out (Unit) (Bool×Unit))×World):=
 if (decide (i7<70))=true then((all6.a).bind fun p_3=>
 if (0:Int)≤(IntKind.i64.wrap (n5+i7))∧(IntKind.i64.wrap (n5+i7))<((all6.len:Nat):Int) then((ldStr (p_3.add ((Int.toNat (IntKind.i64.wrap (n5+i7)))*1)) w).bind fun v_4=>
 if (!(v_4.toList == str7.toList))=true then(some (.ret (false,()),w)) else(rec n5 all6 (IntKind.i64.wrap (i7+1)) w)) else none) else(some (.norm (),w))
noncomputable def K_21 (K:Nat) (n:Nat):Int→Sl→Int→World→Option ((Out (Unit) (Bool×Unit))×World):=iter (fun _ _ _ _=>none) (K_5e K) n
noncomputable def K_6x (K:Nat) (c0:Sl) (l1:Sl) (w:World):Option ((Bool×Unit)×World):=
 bnd (K_85 K c0 l1 w) fun r_1 w_2=>
 if (!r_1.1)=true then(some ((false,()),w_2)) else(if (0:Int)≤(IntKind.i64.wrap (((c0.len:Nat):Int)+70))∧(IntKind.i64.wrap (((c0.len:Nat):Int)+70))≤((c0.cap:Nat):Int) then(bnd (K_21 K K ((c0.len:Nat):Int) ⟨(sla c0.a 0 c0.cap 1),((Int.toNat ((IntKind.i64.wrap (((c0.len:Nat):Int)+70)))) - 0),(c0.cap - 0)⟩ 0 w_2) fun y_5 w_6=>
 (match y_5 with
 | .norm z_7n=>(some ((true,()),w_6))
 | .ret z_7r=>(some ((z_7r.1,()),w_6)))) else none)
theorem K_t9(K:Nat)(n:Nat):StmtOk prog [(5,.int .i64),(6,.sl),(7,.int .i64)] [] [(4,.bool)] [(4,5),(7,8),(18,29)] ((fun n x w=>K_21 K n x.1 x.2.1 x.2.2.1 w) n) (.block 0 (.loop (cd (bodyOf f31) [1,1,1,1,0,1,0,0]))):=
  K_26 (O:=tabL []) (root:=(bodyOf f31)) (π:=[1,1,1,1,0,1,0,0]) (Li:=[(5,.int .i64),(6,.sl),(7,.int .i64)]) (Lo:=[]) (Lr:=[(4,.bool)]) (S:=(fun n x w=>K_21 K n x.1 x.2.1 x.2.2.1 w)) (K_in K) (K_ig K) rfl (Orc.nil _ _ _) (by kernel_rfl) (fun _ _=>by kernel_rfl) (fun _ _ _=>by kernel_rfl) n
noncomputable def K_gm (K:Nat):SE:=stmt [(5,.int .i64),(6,.sl),(7,.int .i64)] [] [(4,.bool)] [(4,5),(7,8),(18,29)] (fun x w=>K_21 K K x.1 x.2.1 x.2.2.1 w)
theorem K_o8(K:Nat)(R:Rg)(h:subRB [(4,5),(7,8),(18,29)] R=true):(K_gm K).Ok prog R (.block 0 (.loop (cd (bodyOf f31) [1,1,1,1,0,1,0,0]))):=K_1o (K_t9 K K) (K_0 h)
theorem K_gz:FunFacts prog 31 f31 (bodyOf f31) [(0,.sl),(1,.sl)] [(0,29)]:=⟨func31,by kernel_rfl,by kernel_rfl,by kernel_rfl,by kernel_rfl,by kernel_rfl⟩
theorem K_r9(K:Nat)(x:TT [(0,.sl),(1,.sl)])(w:World)(y:TR [.bool])(w2:World)(h:K_6x K x.1 x.2.1 w=some (y,w2)):Calls prog 31 (encA [(0,.sl),(1,.sl)] x).toArray w (fun e w3=>e= .returned (resV (encR [.bool] y))∧w3=w2):=
  K_b (O:=tabL [([1,1,1,1,0,1],K_gm K)]) (Lp:=[(0,.sl),(1,.sl)]) (Rt:=[.bool]) (S:=(fun x w=>K_6x K x.1 x.2.1 w)) (K_in K) (K_ig K) rfl K_gz (Orc.cons (by kernel_rfl) (K_o8 K [(0,29)] (by kernel_rfl)) (Orc.nil _ _ _)) (fun _ _=>by kernel_rfl) x w y w2 h
noncomputable def K_kd (K:Nat):CE:=funE [(0,.sl),(1,.sl)] [.bool] (fun x w=>K_6x K x.1 x.2.1 w)
theorem K_y0(K:Nat):(K_kd K).Ok prog 31:=K_8 K_gz fun x w y w2 h=>K_r9 K x w y w2 h
noncomputable def K_w9 (K:Nat):List (Nat×CE):=[(25,K_vn K),(26,K_vd K),(27,K_qc K),(28,K_sa K),(29,K_o3 K),(30,K_ln K),(31,K_kd K),(23,K_kf K)]
theorem K_h2(K:Nat):Env.Ok prog (tab (K_w9 K)):=(Env.cons (K_197 K) (Env.cons (K_18i K) (Env.cons (K_14q K) (Env.cons (K_167 K) (Env.cons (K_11l K) (Env.cons (K_zp K) (Env.cons (K_y0 K) (Env.cons (K_xl K) (Env.nil _)))))))))
noncomputable def K_x3 (K:Nat):List (Nat×RE):=[(24,K_vl),(19,K_xq)]
theorem K_h1(K:Nat):REnv.Ok prog (tab (K_x3 K)):=(REnv.cons (K_195) (REnv.cons (K_19u) (REnv.nil _)))
noncomputable def K_5f (K:Nat) (l0:Sl) (mine5:Sl) (want6:Sl) (f7:Int) (line8:ByteArray) (g9:Int) (a10:Sl) (e11:Int) (s12:ByteArray) (h13:Int) (b14:Sl) (i15:Int) (w:World):Option ((Bool×Unit)×World):=
 (K_dz e11).bind fun r_14=>
 if (r_14.1 != f7)=true then(some ((true,()),w)) else((K_dz i15).bind fun r_15=>
 if (r_15.1 != f7)=true then(some ((true,()),w)) else((K_dz h13).bind fun r_16=>
 if (r_16.1 != g9)=true then(some ((true,()),w)) else(if (!(s12.toList == line8.toList))=true then(some ((true,()),w)) else(bnd (K_3b K a10 want6 w) fun r_17 w_18=>
 if (!r_17.1)=true then(some ((true,()),w_18)) else(bnd (K_3b K b14 want6 w_18) fun r_19 w_20=>
 if (!r_19.1)=true then(some ((true,()),w_20)) else(bnd (K_6x K mine5 l0 w_20) fun r_21 w_22=>
 some (((!r_21.1),()),w_22)))))))
noncomputable def K_ar (K:Nat) (l0:Sl) (index1:Int) (w:World):Option ((Bool×Unit)×World):=
 (K_bt l0 40).bind fun r_1=>
 bnd (K_eo K r_1.1 w) fun r_2 w_3=>
 bnd (K_er K r_1.1 w_3) fun r_4 w_5=>
 bnd (K_bh K index1 r_1.1 w_5) fun r_6 w_7=>
 bnd (K_ag K r_2.1 w_7) fun r_8 w_9=>
 bnd (K_9c K index1 r_2.1 w_9) fun r_10 w_11=>
 bnd (K_ag K r_2.1 w_11) fun r_12 w_13=>
 bnd (K_5f K r_1.1 r_2.1 r_4.1 r_4.2.1 r_6.1 r_6.2.1 r_8.1 r_8.2.1 r_10.1 r_10.2.1 r_12.1 r_12.2.1 w_13) fun y_23 w_24=>
 if y_23.1=true then(some ((false,()),w_24)) else(bnd (K_6w K r_8.1 w_24) fun r_25 w_26=>
 bnd (K_3b K r_12.1 r_4.1 w_26) fun r_27 w_28=>
 some ((r_27.1,()),w_28))
theorem K_p6(K:Nat):StmtNOk prog [(0,.sl),(5,.sl),(6,.sl),(7,.int .i64),(8,.str),(9,.int .i64),(10,.sl),(11,.int .i64),(12,.str),(13,.int .i64),(14,.sl),(15,.int .i64)] [(85,.bool)] [(47,86)] (fun x w=>K_5f K x.1 x.2.1 x.2.2.1 x.2.2.2.1 x.2.2.2.2.1 x.2.2.2.2.2.1 x.2.2.2.2.2.2.1 x.2.2.2.2.2.2.2.1 x.2.2.2.2.2.2.2.2.1 x.2.2.2.2.2.2.2.2.2.1 x.2.2.2.2.2.2.2.2.2.2.1 x.2.2.2.2.2.2.2.2.2.2.2.1 w) (cd (bodyOf f4) [1,1,1,1,1,1,1,1,0,0]):=
  K_g (O:=tabL []) (root:=(bodyOf f4)) (π:=[1,1,1,1,1,1,1,1,0,0]) (K_h2 K) (K_h1 K) rfl (Orc.nil _ _ _) (by kernel_rfl) (fun _ _=>by kernel_rfl)
noncomputable def K_f3 (K:Nat):SE:=stmtN [(0,.sl),(5,.sl),(6,.sl),(7,.int .i64),(8,.str),(9,.int .i64),(10,.sl),(11,.int .i64),(12,.str),(13,.int .i64),(14,.sl),(15,.int .i64)] [(85,.bool)] [(47,86)] (fun x w=>K_5f K x.1 x.2.1 x.2.2.1 x.2.2.2.1 x.2.2.2.2.1 x.2.2.2.2.2.1 x.2.2.2.2.2.2.1 x.2.2.2.2.2.2.2.1 x.2.2.2.2.2.2.2.2.1 x.2.2.2.2.2.2.2.2.2.1 x.2.2.2.2.2.2.2.2.2.2.1 x.2.2.2.2.2.2.2.2.2.2.2.1 w)
theorem K_ld(K:Nat)(R:Rg)(h:subRB [(47,86)] R=true):(K_f3 K).Ok prog R (cd (bodyOf f4) [1,1,1,1,1,1,1,1,0,0]):=K_2 (K_p6 K) (K_0 h)
theorem K_pe:FunFacts prog 4 f4 (bodyOf f4) [(0,.sl),(1,.int .i64)] [(0,91)]:=⟨func4,by kernel_rfl,by kernel_rfl,by kernel_rfl,by kernel_rfl,by kernel_rfl⟩
theorem K_pb(K:Nat)(x:TT [(0,.sl),(1,.int .i64)])(w:World)(y:TR [.bool])(w2:World)(h:K_ar K x.1 x.2.1 w=some (y,w2)):Calls prog 4 (encA [(0,.sl),(1,.int .i64)] x).toArray w (fun e w3=>e= .returned (resV (encR [.bool] y))∧w3=w2):=
  K_b (O:=tabL [([1,1,1,1,1,1,1,1,0,0],K_f3 K)]) (Lp:=[(0,.sl),(1,.int .i64)]) (Rt:=[.bool]) (S:=(fun x w=>K_ar K x.1 x.2.1 w)) (K_h2 K) (K_h1 K) rfl K_pe (Orc.cons (by kernel_rfl) (K_ld K [(0,91)] (by kernel_rfl)) (Orc.nil _ _ _)) (fun _ _=>by kernel_rfl) x w y w2 h
end Go.Sh

namespace Go.Sh
open Go.Fw Go.Proofs.Tryd
end Go.Sh

namespace Go.Sh
open Go.Fw Go.Proofs.Tryd
end Go.Sh

namespace Go.Sh
open Go.Fw Go.Proofs.Tryd
end Go.Sh
