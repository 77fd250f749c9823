/- Texts of this claim, put together: Sh4, Sh5 -/
import Derived.Test.YteomkfcfhlljkaaAllShcngpfj
/- What functions of the program do, as Lean functions; that the machine does just that. Printed by shal.py, a program of this claim's writer. -/
set_option maxRecDepth 100000
set_option linter.unusedVariables false
namespace Go.Sh
open Go.Fw Go.Proofs.Try

noncomputable def escrow_repaired_E (K : Nat) : List (Nat × CE) := [(40, escrow_summed_ce K), (41, ceR (rijndael_Times_re K)), (44, slices_Clone_byte_byte_ce)]
theorem escrow_repaired_Eok (K : Nat) : Env.Ok prog (tab (escrow_repaired_E K)) := (Env.cons (escrow_summed_ok K) (Env.cons (ceR_ok (rijndael_Times_ok K)) (Env.cons (slices_Clone_byte_byte_ok) (Env.nil _))))
noncomputable def escrow_repaired_R (K : Nat) : List (Nat × RE) := [(42, escrow_over_re K), (43, escrow_power_re K)]
theorem escrow_repaired_Rok (K : Nat) : REnv.Ok prog (tab (escrow_repaired_R K)) := (REnv.cons (escrow_over_ok K) (REnv.cons (escrow_power_ok K) (REnv.nil _)))
noncomputable def escrow_repaired_s0 (K : Nat) (s5 : Addr) (times7 : Value) (w : World) : Option ((Int × Unit) × World) :=
  (ldI .u8 (s5.add (0 * 1)) w.drew).bind fun v_9 =>
  (ldI .u8 (s5.add (2 * 1)) w.drew).bind fun v_10 =>
  (ldI .u8 (s5.add (1 * 1)) w.drew).bind fun v_11 =>
  (ldI .u8 (s5.add (1 * 1)) w.drew).bind fun v_12 =>
  dyn (tab (escrow_repaired_E K)) times7 [(.int .u8 v_9), (.int .u8 v_10)] w.drew fun v_13 w_14 =>
  (asI .u8 v_13).bind fun v_15 =>
  (ldI .u8 (s5.add (1 * 1)) w_14).bind fun v_16 =>
  sameK (.int .u8 v_12) (.int .u8 v_16) ((ldI .u8 (s5.add (1 * 1)) w_14).bind fun v_17 =>
  sameK (.int .u8 v_11) (.int .u8 v_17) ((ldI .u8 (s5.add (2 * 1)) w_14).bind fun v_18 =>
  sameK (.int .u8 v_10) (.int .u8 v_18) ((ldI .u8 (s5.add (0 * 1)) w_14).bind fun v_19 =>
  sameK (.int .u8 v_9) (.int .u8 v_19) (dyn (tab (escrow_repaired_E K)) times7 [(.int .u8 v_11), (.int .u8 v_12)] w_14 fun v_20 w_21 =>
  (asI .u8 v_20).bind fun v_22 =>
  (ldI .u8 (s5.add (1 * 1)) w_21).bind fun v_23 =>
  sameK (.int .u8 v_12) (.int .u8 v_23) ((ldI .u8 (s5.add (1 * 1)) w_21).bind fun v_24 =>
  sameK (.int .u8 v_11) (.int .u8 v_24) ((ldI .u8 (s5.add (2 * 1)) w_21).bind fun v_25 =>
  sameK (.int .u8 v_10) (.int .u8 v_25) ((ldI .u8 (s5.add (0 * 1)) w_21).bind fun v_26 =>
  sameK (.int .u8 v_9) (.int .u8 v_26) (some (((bits .xor .u8 v_15 v_22), ()), w_21)))))))))
noncomputable def escrow_repaired_s2 (K : Nat) (s5 : Addr) (w : World) : Option ((Bool × Unit) × World) :=
  (ldI .u8 (s5.add (0 * 1)) w).bind fun v_29 =>
  if (v_29 == 0) = true then (some ((true, ()), w)) else ((ldI .u8 (s5.add (1 * 1)) w).bind fun v_30 =>
  some (((v_30 == 0), ()), w))
noncomputable def escrow_repaired_s3 (K : Nat) (s5 : Addr) (times7 : Value) (delta8 : Int) (w : World) : Option ((Int × Unit) × World) :=
  (ldI .u8 (s5.add (0 * 1)) w.drew).bind fun v_38 =>
  (ldI .u8 (s5.add (3 * 1)) w.drew).bind fun v_39 =>
  (ldI .u8 (s5.add (1 * 1)) w.drew).bind fun v_40 =>
  (ldI .u8 (s5.add (2 * 1)) w.drew).bind fun v_41 =>
  dyn (tab (escrow_repaired_E K)) times7 [(.int .u8 v_38), (.int .u8 v_39)] w.drew fun v_42 w_43 =>
  (asI .u8 v_42).bind fun v_44 =>
  (ldI .u8 (s5.add (2 * 1)) w_43).bind fun v_45 =>
  sameK (.int .u8 v_41) (.int .u8 v_45) ((ldI .u8 (s5.add (1 * 1)) w_43).bind fun v_46 =>
  sameK (.int .u8 v_40) (.int .u8 v_46) ((ldI .u8 (s5.add (3 * 1)) w_43).bind fun v_47 =>
  sameK (.int .u8 v_39) (.int .u8 v_47) ((ldI .u8 (s5.add (0 * 1)) w_43).bind fun v_48 =>
  sameK (.int .u8 v_38) (.int .u8 v_48) (dyn (tab (escrow_repaired_E K)) times7 [(.int .u8 v_40), (.int .u8 v_41)] w_43 fun v_49 w_50 =>
  (asI .u8 v_49).bind fun v_51 =>
  (ldI .u8 (s5.add (2 * 1)) w_50).bind fun v_52 =>
  sameK (.int .u8 v_41) (.int .u8 v_52) ((ldI .u8 (s5.add (1 * 1)) w_50).bind fun v_53 =>
  sameK (.int .u8 v_40) (.int .u8 v_53) ((ldI .u8 (s5.add (3 * 1)) w_50).bind fun v_54 =>
  sameK (.int .u8 v_39) (.int .u8 v_54) ((ldI .u8 (s5.add (0 * 1)) w_50).bind fun v_55 =>
  sameK (.int .u8 v_38) (.int .u8 v_55) ((escrow_over K (bits .xor .u8 v_44 v_51) delta8).bind fun r_56 =>
  (ldI .u8 (s5.add (2 * 1)) w_50).bind fun v_57 =>
  sameK (.int .u8 v_41) (.int .u8 v_57) ((ldI .u8 (s5.add (1 * 1)) w_50).bind fun v_58 =>
  sameK (.int .u8 v_40) (.int .u8 v_58) ((ldI .u8 (s5.add (3 * 1)) w_50).bind fun v_59 =>
  sameK (.int .u8 v_39) (.int .u8 v_59) ((ldI .u8 (s5.add (0 * 1)) w_50).bind fun v_60 =>
  sameK (.int .u8 v_38) (.int .u8 v_60) (some ((r_56.1, ()), w_50)))))))))))))
noncomputable def escrow_repaired_s4 (K : Nat) (s5 : Addr) (times7 : Value) (delta8 : Int) (w : World) : Option ((Int × Unit) × World) :=
  (ldI .u8 (s5.add (1 * 1)) w.drew).bind fun v_63 =>
  (ldI .u8 (s5.add (3 * 1)) w.drew).bind fun v_64 =>
  (ldI .u8 (s5.add (2 * 1)) w.drew).bind fun v_65 =>
  (ldI .u8 (s5.add (2 * 1)) w.drew).bind fun v_66 =>
  dyn (tab (escrow_repaired_E K)) times7 [(.int .u8 v_63), (.int .u8 v_64)] w.drew fun v_67 w_68 =>
  (asI .u8 v_67).bind fun v_69 =>
  (ldI .u8 (s5.add (2 * 1)) w_68).bind fun v_70 =>
  sameK (.int .u8 v_66) (.int .u8 v_70) ((ldI .u8 (s5.add (2 * 1)) w_68).bind fun v_71 =>
  sameK (.int .u8 v_65) (.int .u8 v_71) ((ldI .u8 (s5.add (3 * 1)) w_68).bind fun v_72 =>
  sameK (.int .u8 v_64) (.int .u8 v_72) ((ldI .u8 (s5.add (1 * 1)) w_68).bind fun v_73 =>
  sameK (.int .u8 v_63) (.int .u8 v_73) (dyn (tab (escrow_repaired_E K)) times7 [(.int .u8 v_65), (.int .u8 v_66)] w_68 fun v_74 w_75 =>
  (asI .u8 v_74).bind fun v_76 =>
  (ldI .u8 (s5.add (2 * 1)) w_75).bind fun v_77 =>
  sameK (.int .u8 v_66) (.int .u8 v_77) ((ldI .u8 (s5.add (2 * 1)) w_75).bind fun v_78 =>
  sameK (.int .u8 v_65) (.int .u8 v_78) ((ldI .u8 (s5.add (3 * 1)) w_75).bind fun v_79 =>
  sameK (.int .u8 v_64) (.int .u8 v_79) ((ldI .u8 (s5.add (1 * 1)) w_75).bind fun v_80 =>
  sameK (.int .u8 v_63) (.int .u8 v_80) ((escrow_over K (bits .xor .u8 v_69 v_76) delta8).bind fun r_81 =>
  (ldI .u8 (s5.add (2 * 1)) w_75).bind fun v_82 =>
  sameK (.int .u8 v_66) (.int .u8 v_82) ((ldI .u8 (s5.add (2 * 1)) w_75).bind fun v_83 =>
  sameK (.int .u8 v_65) (.int .u8 v_83) ((ldI .u8 (s5.add (3 * 1)) w_75).bind fun v_84 =>
  sameK (.int .u8 v_64) (.int .u8 v_84) ((ldI .u8 (s5.add (1 * 1)) w_75).bind fun v_85 =>
  sameK (.int .u8 v_63) (.int .u8 v_85) (some ((r_81.1, ()), w_75)))))))))))))
noncomputable def escrow_repaired_l5_b (K : Nat) (rec : Sl → Addr → Sl → Value → Int → Int → Int → Int → World → Option ((Sl × Unit) × World)) (b0 : Sl) (s5 : Addr) (places6 : Sl) (times7 : Value) (one9 : Int) (two10 : Int) (a85 : Int) (a86 : Int) (w : World) : Option ((Sl × Unit) × World) :=
  if (decide (a86 < a85)) = true then ((escrow_power K a86).bind fun r_88 =>
  dyn (tab (escrow_repaired_E K)) times7 [(.int .u8 r_88.1), (.int .u8 r_88.1)] w fun v_89 w_90 =>
  (asI .u8 v_89).bind fun v_91 =>
  dyn (tab (escrow_repaired_E K)) times7 [(.int .u8 one9), (.int .u8 r_88.1)] w_90 fun v_92 w_93 =>
  (asI .u8 v_92).bind fun v_94 =>
  if ((bits .xor .u8 (bits .xor .u8 v_91 v_94) two10) == 0) = true then (bnd (bldS prog 25 1 #[(0, (.int .u8 r_88.1))] w_93) fun s_95 w_96 =>
  bnd (apd prog 25 25 (.slice places6.a places6.len places6.cap) (.slice s_95.a s_95.len s_95.cap) w_96) fun s_97 w_98 =>
  rec b0 s5 s_97 times7 one9 two10 a85 (IntKind.i64.wrap (a86 + 1)) w_98) else (rec b0 s5 places6 times7 one9 two10 a85 (IntKind.i64.wrap (a86 + 1)) w_93)) else (some ((places6, ()), w))
noncomputable def escrow_repaired_l5 (K : Nat) (n : Nat) : Sl → Addr → Sl → Value → Int → Int → Int → Int → World → Option ((Sl × Unit) × World) := iter (fun _ _ _ _ _ _ _ _ _ => none) (escrow_repaired_l5_b K) n
noncomputable def escrow_repaired_s1 (K : Nat) (b0 : Sl) (s5 : Addr) (places6 : Sl) (times7 : Value) (delta8 : Int) (a39 : Bool) (w : World) : Option ((Out (Sl × Unit) (Sl × Int × Bool × Unit)) × World) :=
  if a39 = true then (bnd (escrow_repaired_s2 K s5 w) fun y_31 w_32 =>
  if y_31.1 = true then (some (.ret (⟨none, 0, 0⟩, 0, false, ()), w_32)) else ((ldI .u8 (s5.add (1 * 1)) w_32).bind fun v_33 =>
  (ldI .u8 (s5.add (0 * 1)) w_32).bind fun v_34 =>
  (escrow_over K v_33 v_34).bind fun r_35 =>
  bnd (bldS prog 25 1 #[(0, (.int .u8 r_35.1))] w_32) fun s_36 w_37 =>
  some (.norm (s_36, ()), w_37))) else (bnd (escrow_repaired_s3 K s5 times7 delta8 w) fun y_61 w_62 =>
  bnd (escrow_repaired_s4 K s5 times7 delta8 w_62) fun y_86 w_87 =>
  bnd (escrow_repaired_l5 K K b0 s5 places6 times7 y_61.1 y_86.1 ((b0.len : Nat) : Int) 0 w_87) fun y_99 w_100 =>
  if (((y_99.1.len : Nat) : Int) != 2) = true then (some (.ret (⟨none, 0, 0⟩, 0, false, ()), w_100)) else (some (.norm (y_99.1, ()), w_100)))
noncomputable def escrow_repaired_s8 (K : Nat) (s5 : Addr) (places6 : Sl) (times7 : Value) (i14 : Int) (x15 : Int) (v16 : Int) (w : World) : Option ((Int × Unit) × World) :=
  (places6.a).bind fun p_109 =>
  if (0 : Int) ≤ (IntKind.i64.wrap (1 - i14)) ∧ (IntKind.i64.wrap (1 - i14)) < ((places6.len : Nat) : Int) then ((places6.a).bind fun p_110 =>
  if (0 : Int) ≤ (IntKind.i64.wrap (1 - i14)) ∧ (IntKind.i64.wrap (1 - i14)) < ((places6.len : Nat) : Int) then ((ldI .u8 (s5.add (1 * 1)) w.drew).bind fun v_111 =>
  (ldI .u8 (s5.add (0 * 1)) w.drew).bind fun v_112 =>
  (ldI .u8 (p_109.add ((Int.toNat (IntKind.i64.wrap (1 - i14))) * 1)) w.drew).bind fun v_113 =>
  (ldI .u8 (p_110.add ((Int.toNat (IntKind.i64.wrap (1 - i14))) * 1)) w.drew).bind fun v_114 =>
  dyn (tab (escrow_repaired_E K)) times7 [(.int .u8 v_112), (.int .u8 v_113)] w.drew fun v_115 w_116 =>
  (asI .u8 v_115).bind fun v_117 =>
  (ldI .u8 (p_110.add ((Int.toNat (IntKind.i64.wrap (1 - i14))) * 1)) w_116).bind fun v_118 =>
  sameK (.int .u8 v_114) (.int .u8 v_118) ((ldI .u8 (p_109.add ((Int.toNat (IntKind.i64.wrap (1 - i14))) * 1)) w_116).bind fun v_119 =>
  sameK (.int .u8 v_113) (.int .u8 v_119) ((ldI .u8 (s5.add (0 * 1)) w_116).bind fun v_120 =>
  sameK (.int .u8 v_112) (.int .u8 v_120) ((ldI .u8 (s5.add (1 * 1)) w_116).bind fun v_121 =>
  sameK (.int .u8 v_111) (.int .u8 v_121) ((escrow_over K (bits .xor .u8 v_111 v_117) (bits .xor .u8 x15 v_114)).bind fun r_122 =>
  (ldI .u8 (p_110.add ((Int.toNat (IntKind.i64.wrap (1 - i14))) * 1)) w_116).bind fun v_123 =>
  sameK (.int .u8 v_114) (.int .u8 v_123) ((ldI .u8 (p_109.add ((Int.toNat (IntKind.i64.wrap (1 - i14))) * 1)) w_116).bind fun v_124 =>
  sameK (.int .u8 v_113) (.int .u8 v_124) ((ldI .u8 (s5.add (0 * 1)) w_116).bind fun v_125 =>
  sameK (.int .u8 v_112) (.int .u8 v_125) ((ldI .u8 (s5.add (1 * 1)) w_116).bind fun v_126 =>
  sameK (.int .u8 v_111) (.int .u8 v_126) (some ((r_122.1, ()), w_116)))))))))) else none) else none
noncomputable def escrow_repaired_s7 (K : Nat) (s5 : Addr) (places6 : Sl) (times7 : Value) (i14 : Int) (x15 : Int) (v16 : Int) (a124 : Bool) (w : World) : Option ((Int × Unit) × World) :=
  if a124 = true then (bnd (escrow_repaired_s8 K s5 places6 times7 i14 x15 v16 w) fun y_127 w_128 =>
  some ((y_127.1, ()), w_128)) else (some ((v16, ()), w))
noncomputable def escrow_repaired_l9_b (K : Nat) (rec : Addr → Sl → Value → Sl → Int → Int → Int → Sl → Int → Int → Int → Int → World → Option ((Int × Unit) × World)) (s5 : Addr) (places6 : Sl) (times7 : Value) (out13 : Sl) (x15 : Int) (v16 : Int) (at17 : Int) (a113 : Sl) (a114 : Int) (a115 : Int) (a146 : Int) (a147 : Int) (w : World) : Option ((Int × Unit) × World) :=
  if (decide (a147 < a146)) = true then ((escrow_power K (IntKind.i64.wrap ((IntKind.i64.wrap (((out13.len : Nat) : Int) - 1)) - a147))).bind fun r_131 =>
  if (r_131.1 == x15) = true then (rec s5 places6 times7 out13 x15 v16 a147 a113 a114 a115 a146 (IntKind.i64.wrap (a147 + 1)) w) else (rec s5 places6 times7 out13 x15 v16 at17 a113 a114 a115 a146 (IntKind.i64.wrap (a147 + 1)) w)) else (some ((at17, ()), w))
noncomputable def escrow_repaired_l9 (K : Nat) (n : Nat) : Addr → Sl → Value → Sl → Int → Int → Int → Sl → Int → Int → Int → Int → World → Option ((Int × Unit) × World) := iter (fun _ _ _ _ _ _ _ _ _ _ _ _ _ => none) (escrow_repaired_l9_b K) n
noncomputable def escrow_repaired_l6_b (K : Nat) (rec : Addr → Sl → Value → Sl → Sl → Int → Int → World → Option ((Out (Unit) (Sl × Int × Bool × Unit)) × World)) (s5 : Addr) (places6 : Sl) (times7 : Value) (out13 : Sl) (a113 : Sl) (a114 : Int) (a115 : Int) (w : World) : Option ((Out (Unit) (Sl × Int × Bool × Unit)) × World) :=
  if (decide (a115 < a114)) = true then ((a113.a).bind fun p_106 =>
  if (0 : Int) ≤ a115 ∧ a115 < ((a113.len : Nat) : Int) then ((ldI .u8 (p_106.add ((Int.toNat a115) * 1)) w).bind fun v_107 =>
  (ldI .u8 (s5.add (0 * 1)) w).bind fun v_108 =>
  bnd (escrow_repaired_s7 K s5 places6 times7 a115 v_107 v_108 (((places6.len : Nat) : Int) == 2) w) fun y_129 w_130 =>
  bnd (escrow_repaired_l9 K K s5 places6 times7 out13 v_107 y_129.1 (-1) a113 a114 a115 ((out13.len : Nat) : Int) 0 w_130) fun y_132 w_133 =>
  if (decide (y_132.1 < 0)) = true then (some (.ret (⟨none, 0, 0⟩, 0, false, ()), w_133)) else ((out13.a).bind fun p_134 =>
  if (0 : Int) ≤ y_132.1 ∧ y_132.1 < ((out13.len : Nat) : Int) then ((ldI .u8 (p_134.add ((Int.toNat y_132.1) * 1)) w_133).bind fun v_135 =>
  (out13.a).bind fun p_136 =>
  if (0 : Int) ≤ y_132.1 ∧ y_132.1 < ((out13.len : Nat) : Int) then ((stC (p_136.add ((Int.toNat y_132.1) * 1)) (.int .u8 (bits .xor .u8 v_135 y_129.1)) w_133).bind fun w_137 =>
  rec s5 places6 times7 out13 a113 a114 (IntKind.i64.wrap (a115 + 1)) w_137) else none) else none)) else none) else (some (.norm (), w))
noncomputable def escrow_repaired_l6 (K : Nat) (n : Nat) : Addr → Sl → Value → Sl → Sl → Int → Int → World → Option ((Out (Unit) (Sl × Int × Bool × Unit)) × World) := iter (fun _ _ _ _ _ _ _ _ => none) (escrow_repaired_l6_b K) n
/-- coffer/escrow.repaired -/
noncomputable def escrow_repaired (K : Nat) (b0 : Sl) (w : World) : Option ((Sl × Int × Bool × Unit) × World) :=
  bnd (escrow_summed K b0 w) fun r_1 w_2 =>
  bnd (newB z71 71 w_2) fun s_3 w_4 =>
  if (r_1.1).size = 4 then ((stA s_3 r_1.1 w_4).bind fun w_5 =>
  (ldA 4 s_3 w_5).bind fun v_6 =>
  (prog.built 71 []).bind fun cs_7 =>
  (eqA prog 71 v_6 cs_7).bind fun b_8 =>
  if b_8 = true then (some ((b0, 0, true, ()), w_5)) else (bnd (escrow_repaired_s0 K s_3 (.func (.func 41) #[] #[]) w_5) fun y_27 w_28 =>
  bnd (escrow_repaired_s1 K b0 s_3 ⟨none, 0, 0⟩ (.func (.func 41) #[] #[]) y_27.1 (y_27.1 == 0) w_28) fun y_101 w_102 =>
  (match y_101 with
  | .norm z_103n => (bnd (slices_Clone_byte_byte b0 w_102) fun r_104 w_105 =>
  bnd (escrow_repaired_l6 K K s_3 z_103n.1 (.func (.func 41) #[] #[]) r_104.1 z_103n.1 ((z_103n.1.len : Nat) : Int) 0 w_105) fun y_138 w_139 =>
  (match y_138 with
  | .norm z_140n => ((prog.built 71 []).bind fun cs_141 =>
  bnd (escrow_summed K r_104.1 w_139.drew) fun r_142 w_143 =>
  (eqA prog 71 r_142.1 cs_141).bind fun b_144 =>
  some ((r_104.1, ((z_103n.1.len : Nat) : Int), b_144, ()), w_143))
  | .ret z_140r => (some ((z_140r.1, z_140r.2.1, z_140r.2.2.1, ()), w_139))))
  | .ret z_103r => (some ((z_103r.1, z_103r.2.1, z_103r.2.2.1, ()), w_102))))) else none
theorem escrow_repaired_s0_ok (K : Nat) : StmtNOk prog [(5, .addr), (7, .val)] [(8, .int .u8)] [(8, 9), (25, 38)] (fun x w => escrow_repaired_s0 K x.1 x.2.1 w) (cd (bodyOf f33) [1, 1, 1, 1, 1, 0]) :=
    mk_regionH (R := [(8, 9), (25, 38)]) (Li := [(5, .addr), (7, .val)]) (Lo := [(8, .int .u8)]) (S := (fun x w => escrow_repaired_s0 K x.1 x.2.1 w)) (escrow_repaired_Eok K) (escrow_repaired_Rok K) rfl (fun _ _ => by kernel_rfl)
noncomputable def escrow_repaired_s0_se (K : Nat) : SE := stmtN [(5, .addr), (7, .val)] [(8, .int .u8)] [(8, 9), (25, 38)] (fun x w => escrow_repaired_s0 K x.1 x.2.1 w)
theorem escrow_repaired_s0_se_ok (K : Nat) (R : Rg) (h : subRB [(8, 9), (25, 38)] R = true) : (escrow_repaired_s0_se K).Ok prog R (cd (bodyOf f33) [1, 1, 1, 1, 1, 0]) := stmtN_ok (Li := [(5, .addr), (7, .val)]) (Lo := [(8, .int .u8)]) (S := (fun x w => escrow_repaired_s0 K x.1 x.2.1 w)) (escrow_repaired_s0_ok K) (subR_of h)
theorem escrow_repaired_s2_ok (K : Nat) : StmtNOk prog [(5, .addr)] [(47, .bool)] [(40, 48)] (fun x w => escrow_repaired_s2 K x.1 w) (cd (bodyOf f33) [1, 1, 1, 1, 1, 1, 0, 1, 0, 0, 0]) :=
    mk_stmtN (O := tabL []) (root := (bodyOf f33)) (π := [1, 1, 1, 1, 1, 1, 0, 1, 0, 0, 0]) (Li := [(5, .addr)]) (Lo := [(47, .bool)]) (S := (fun x w => escrow_repaired_s2 K x.1 w)) (escrow_repaired_Eok K) (escrow_repaired_Rok K) rfl (Orc.nil _ _ _) (by kernel_rfl) (fun _ _ => by kernel_rfl)
noncomputable def escrow_repaired_s2_se (K : Nat) : SE := stmtN [(5, .addr)] [(47, .bool)] [(40, 48)] (fun x w => escrow_repaired_s2 K x.1 w)
theorem escrow_repaired_s2_se_ok (K : Nat) (R : Rg) (h : subRB [(40, 48)] R = true) : (escrow_repaired_s2_se K).Ok prog R (cd (bodyOf f33) [1, 1, 1, 1, 1, 1, 0, 1, 0, 0, 0]) := stmtN_ok (Li := [(5, .addr)]) (Lo := [(47, .bool)]) (S := (fun x w => escrow_repaired_s2 K x.1 w)) (escrow_repaired_s2_ok K) (subR_of h)
theorem escrow_repaired_s3_ok (K : Nat) : StmtNOk prog [(5, .addr), (7, .val), (8, .int .u8)] [(9, .int .u8)] [(9, 10), (54, 69)] (fun x w => escrow_repaired_s3 K x.1 x.2.1 x.2.2.1 w) (cd (bodyOf f33) [1, 1, 1, 1, 1, 1, 0, 1, 1, 0]) :=
    mk_regionH (R := [(9, 10), (54, 69)]) (Li := [(5, .addr), (7, .val), (8, .int .u8)]) (Lo := [(9, .int .u8)]) (S := (fun x w => escrow_repaired_s3 K x.1 x.2.1 x.2.2.1 w)) (escrow_repaired_Eok K) (escrow_repaired_Rok K) rfl (fun _ _ => by kernel_rfl)
noncomputable def escrow_repaired_s3_se (K : Nat) : SE := stmtN [(5, .addr), (7, .val), (8, .int .u8)] [(9, .int .u8)] [(9, 10), (54, 69)] (fun x w => escrow_repaired_s3 K x.1 x.2.1 x.2.2.1 w)
theorem escrow_repaired_s3_se_ok (K : Nat) (R : Rg) (h : subRB [(9, 10), (54, 69)] R = true) : (escrow_repaired_s3_se K).Ok prog R (cd (bodyOf f33) [1, 1, 1, 1, 1, 1, 0, 1, 1, 0]) := stmtN_ok (Li := [(5, .addr), (7, .val), (8, .int .u8)]) (Lo := [(9, .int .u8)]) (S := (fun x w => escrow_repaired_s3 K x.1 x.2.1 x.2.2.1 w)) (escrow_repaired_s3_ok K) (subR_of h)
theorem escrow_repaired_s4_ok (K : Nat) : StmtNOk prog [(5, .addr), (7, .val), (8, .int .u8)] [(10, .int .u8)] [(10, 11), (69, 84)] (fun x w => escrow_repaired_s4 K x.1 x.2.1 x.2.2.1 w) (cd (bodyOf f33) [1, 1, 1, 1, 1, 1, 0, 1, 1, 1, 0]) :=
    mk_regionH (R := [(10, 11), (69, 84)]) (Li := [(5, .addr), (7, .val), (8, .int .u8)]) (Lo := [(10, .int .u8)]) (S := (fun x w => escrow_repaired_s4 K x.1 x.2.1 x.2.2.1 w)) (escrow_repaired_Eok K) (escrow_repaired_Rok K) rfl (fun _ _ => by kernel_rfl)
noncomputable def escrow_repaired_s4_se (K : Nat) : SE := stmtN [(5, .addr), (7, .val), (8, .int .u8)] [(10, .int .u8)] [(10, 11), (69, 84)] (fun x w => escrow_repaired_s4 K x.1 x.2.1 x.2.2.1 w)
theorem escrow_repaired_s4_se_ok (K : Nat) (R : Rg) (h : subRB [(10, 11), (69, 84)] R = true) : (escrow_repaired_s4_se K).Ok prog R (cd (bodyOf f33) [1, 1, 1, 1, 1, 1, 0, 1, 1, 1, 0]) := stmtN_ok (Li := [(5, .addr), (7, .val), (8, .int .u8)]) (Lo := [(10, .int .u8)]) (S := (fun x w => escrow_repaired_s4 K x.1 x.2.1 x.2.2.1 w)) (escrow_repaired_s4_ok K) (subR_of h)
theorem escrow_repaired_l5_ok (K : Nat) (n : Nat) : StmtNOk prog [(0, .sl), (5, .addr), (6, .sl), (7, .val), (9, .int .u8), (10, .int .u8), (85, .int .i64), (86, .int .i64)] [(6, .sl)] [(6, 7), (11, 13), (86, 108)] ((fun n x w => escrow_repaired_l5 K n x.1 x.2.1 x.2.2.1 x.2.2.2.1 x.2.2.2.2.1 x.2.2.2.2.2.1 x.2.2.2.2.2.2.1 x.2.2.2.2.2.2.2.1 w) n) (.block 0 (.loop (cd (bodyOf f33) [1, 1, 1, 1, 1, 1, 0, 1, 1, 1, 1, 0, 1, 0, 0]))) :=
    mk_loopN (O := tabL []) (root := (bodyOf f33)) (π := [1, 1, 1, 1, 1, 1, 0, 1, 1, 1, 1, 0, 1, 0, 0]) (id := 0) (Li := [(0, .sl), (5, .addr), (6, .sl), (7, .val), (9, .int .u8), (10, .int .u8), (85, .int .i64), (86, .int .i64)]) (Lo := [(6, .sl)]) (S := (fun n x w => escrow_repaired_l5 K n x.1 x.2.1 x.2.2.1 x.2.2.2.1 x.2.2.2.2.1 x.2.2.2.2.2.1 x.2.2.2.2.2.2.1 x.2.2.2.2.2.2.2.1 w)) (body := cd (bodyOf f33) [1, 1, 1, 1, 1, 1, 0, 1, 1, 1, 1, 0, 1, 0, 0]) (escrow_repaired_Eok K) (escrow_repaired_Rok K) rfl (Orc.nil _ _ _) (by kernel_rfl) (fun _ _ => by kernel_rfl) (fun _ _ _ => by kernel_rfl) n
noncomputable def escrow_repaired_l5_se (K : Nat) : SE := stmtN [(0, .sl), (5, .addr), (6, .sl), (7, .val), (9, .int .u8), (10, .int .u8), (85, .int .i64), (86, .int .i64)] [(6, .sl)] [(6, 7), (11, 13), (86, 108)] (fun x w => escrow_repaired_l5 K K x.1 x.2.1 x.2.2.1 x.2.2.2.1 x.2.2.2.2.1 x.2.2.2.2.2.1 x.2.2.2.2.2.2.1 x.2.2.2.2.2.2.2.1 w)
theorem escrow_repaired_l5_se_ok (K : Nat) (R : Rg) (h : subRB [(6, 7), (11, 13), (86, 108)] R = true) : (escrow_repaired_l5_se K).Ok prog R (.block 0 (.loop (cd (bodyOf f33) [1, 1, 1, 1, 1, 1, 0, 1, 1, 1, 1, 0, 1, 0, 0]))) := stmtN_ok (Li := [(0, .sl), (5, .addr), (6, .sl), (7, .val), (9, .int .u8), (10, .int .u8), (85, .int .i64), (86, .int .i64)]) (Lo := [(6, .sl)]) (S := (fun x w => escrow_repaired_l5 K K x.1 x.2.1 x.2.2.1 x.2.2.2.1 x.2.2.2.2.1 x.2.2.2.2.2.1 x.2.2.2.2.2.2.1 x.2.2.2.2.2.2.2.1 w)) (escrow_repaired_l5_ok K K) (subR_of h)
theorem escrow_repaired_s1_ok (K : Nat) : StmtOk prog [(0, .sl), (5, .addr), (6, .sl), (7, .val), (8, .int .u8), (39, .bool)] [(6, .sl)] [(2, .sl), (3, .int .i64), (4, .bool)] [(2, 5), (6, 7), (9, 13), (40, 111)] (fun x w => escrow_repaired_s1 K x.1 x.2.1 x.2.2.1 x.2.2.2.1 x.2.2.2.2.1 x.2.2.2.2.2.1 w) (cd (bodyOf f33) [1, 1, 1, 1, 1, 1, 0, 1]) :=
    mk_stmt (O := tabL [([1, 1, 1, 1, 1, 1, 0, 1, 0, 0, 0], escrow_repaired_s2_se K), ([1, 1, 1, 1, 1, 1, 0, 1, 1, 0], escrow_repaired_s3_se K), ([1, 1, 1, 1, 1, 1, 0, 1, 1, 1, 0], escrow_repaired_s4_se K), ([1, 1, 1, 1, 1, 1, 0, 1, 1, 1, 1, 0, 1], escrow_repaired_l5_se K)]) (root := (bodyOf f33)) (π := [1, 1, 1, 1, 1, 1, 0, 1]) (Li := [(0, .sl), (5, .addr), (6, .sl), (7, .val), (8, .int .u8), (39, .bool)]) (Lo := [(6, .sl)]) (Lr := [(2, .sl), (3, .int .i64), (4, .bool)]) (S := (fun x w => escrow_repaired_s1 K x.1 x.2.1 x.2.2.1 x.2.2.2.1 x.2.2.2.2.1 x.2.2.2.2.2.1 w)) (escrow_repaired_Eok K) (escrow_repaired_Rok K) rfl (Orc.cons (by kernel_rfl) (escrow_repaired_s2_se_ok K [(2, 5), (6, 7), (9, 13), (40, 111)] (by kernel_rfl)) (Orc.cons (by kernel_rfl) (escrow_repaired_s3_se_ok K [(2, 5), (6, 7), (9, 13), (40, 111)] (by kernel_rfl)) (Orc.cons (by kernel_rfl) (escrow_repaired_s4_se_ok K [(2, 5), (6, 7), (9, 13), (40, 111)] (by kernel_rfl)) (Orc.cons (by kernel_rfl) (escrow_repaired_l5_se_ok K [(2, 5), (6, 7), (9, 13), (40, 111)] (by kernel_rfl)) (Orc.nil _ _ _))))) (by kernel_rfl) (fun _ _ => by kernel_rfl)
noncomputable def escrow_repaired_s1_se (K : Nat) : SE := stmt [(0, .sl), (5, .addr), (6, .sl), (7, .val), (8, .int .u8), (39, .bool)] [(6, .sl)] [(2, .sl), (3, .int .i64), (4, .bool)] [(2, 5), (6, 7), (9, 13), (40, 111)] (fun x w => escrow_repaired_s1 K x.1 x.2.1 x.2.2.1 x.2.2.2.1 x.2.2.2.2.1 x.2.2.2.2.2.1 w)
theorem escrow_repaired_s1_se_ok (K : Nat) (R : Rg) (h : subRB [(2, 5), (6, 7), (9, 13), (40, 111)] R = true) : (escrow_repaired_s1_se K).Ok prog R (cd (bodyOf f33) [1, 1, 1, 1, 1, 1, 0, 1]) := stmt_ok (Li := [(0, .sl), (5, .addr), (6, .sl), (7, .val), (8, .int .u8), (39, .bool)]) (Lo := [(6, .sl)]) (Lr := [(2, .sl), (3, .int .i64), (4, .bool)]) (S := (fun x w => escrow_repaired_s1 K x.1 x.2.1 x.2.2.1 x.2.2.2.1 x.2.2.2.2.1 x.2.2.2.2.2.1 w)) (escrow_repaired_s1_ok K) (subR_of h)
theorem escrow_repaired_s8_ok (K : Nat) : StmtNOk prog [(5, .addr), (6, .sl), (7, .val), (14, .int .i64), (15, .int .u8), (16, .int .u8)] [(16, .int .u8)] [(16, 17), (125, 145)] (fun x w => escrow_repaired_s8 K x.1 x.2.1 x.2.2.1 x.2.2.2.1 x.2.2.2.2.1 x.2.2.2.2.2.1 w) (cd (bodyOf f33) [1, 1, 1, 1, 1, 1, 1, 1, 0, 1, 0, 0, 1, 1, 0, 0, 1, 1, 0, 1, 0]) :=
    mk_regionH (R := [(16, 17), (125, 145)]) (Li := [(5, .addr), (6, .sl), (7, .val), (14, .int .i64), (15, .int .u8), (16, .int .u8)]) (Lo := [(16, .int .u8)]) (S := (fun x w => escrow_repaired_s8 K x.1 x.2.1 x.2.2.1 x.2.2.2.1 x.2.2.2.2.1 x.2.2.2.2.2.1 w)) (escrow_repaired_Eok K) (escrow_repaired_Rok K) rfl (fun _ _ => by kernel_rfl)
noncomputable def escrow_repaired_s8_se (K : Nat) : SE := stmtN [(5, .addr), (6, .sl), (7, .val), (14, .int .i64), (15, .int .u8), (16, .int .u8)] [(16, .int .u8)] [(16, 17), (125, 145)] (fun x w => escrow_repaired_s8 K x.1 x.2.1 x.2.2.1 x.2.2.2.1 x.2.2.2.2.1 x.2.2.2.2.2.1 w)
theorem escrow_repaired_s8_se_ok (K : Nat) (R : Rg) (h : subRB [(16, 17), (125, 145)] R = true) : (escrow_repaired_s8_se K).Ok prog R (cd (bodyOf f33) [1, 1, 1, 1, 1, 1, 1, 1, 0, 1, 0, 0, 1, 1, 0, 0, 1, 1, 0, 1, 0]) := stmtN_ok (Li := [(5, .addr), (6, .sl), (7, .val), (14, .int .i64), (15, .int .u8), (16, .int .u8)]) (Lo := [(16, .int .u8)]) (S := (fun x w => escrow_repaired_s8 K x.1 x.2.1 x.2.2.1 x.2.2.2.1 x.2.2.2.2.1 x.2.2.2.2.2.1 w)) (escrow_repaired_s8_ok K) (subR_of h)
theorem escrow_repaired_s7_ok (K : Nat) : StmtNOk prog [(5, .addr), (6, .sl), (7, .val), (14, .int .i64), (15, .int .u8), (16, .int .u8), (124, .bool)] [(16, .int .u8)] [(16, 17), (125, 145)] (fun x w => escrow_repaired_s7 K x.1 x.2.1 x.2.2.1 x.2.2.2.1 x.2.2.2.2.1 x.2.2.2.2.2.1 x.2.2.2.2.2.2.1 w) (cd (bodyOf f33) [1, 1, 1, 1, 1, 1, 1, 1, 0, 1, 0, 0, 1, 1, 0, 0, 1, 1, 0, 1]) :=
    mk_stmtN (O := tabL [([1, 1, 1, 1, 1, 1, 1, 1, 0, 1, 0, 0, 1, 1, 0, 0, 1, 1, 0, 1, 0], escrow_repaired_s8_se K)]) (root := (bodyOf f33)) (π := [1, 1, 1, 1, 1, 1, 1, 1, 0, 1, 0, 0, 1, 1, 0, 0, 1, 1, 0, 1]) (Li := [(5, .addr), (6, .sl), (7, .val), (14, .int .i64), (15, .int .u8), (16, .int .u8), (124, .bool)]) (Lo := [(16, .int .u8)]) (S := (fun x w => escrow_repaired_s7 K x.1 x.2.1 x.2.2.1 x.2.2.2.1 x.2.2.2.2.1 x.2.2.2.2.2.1 x.2.2.2.2.2.2.1 w)) (escrow_repaired_Eok K) (escrow_repaired_Rok K) rfl (Orc.cons (by kernel_rfl) (escrow_repaired_s8_se_ok K [(16, 17), (125, 145)] (by kernel_rfl)) (Orc.nil _ _ _)) (by kernel_rfl) (fun _ _ => by kernel_rfl)
noncomputable def escrow_repaired_s7_se (K : Nat) : SE := stmtN [(5, .addr), (6, .sl), (7, .val), (14, .int .i64), (15, .int .u8), (16, .int .u8), (124, .bool)] [(16, .int .u8)] [(16, 17), (125, 145)] (fun x w => escrow_repaired_s7 K x.1 x.2.1 x.2.2.1 x.2.2.2.1 x.2.2.2.2.1 x.2.2.2.2.2.1 x.2.2.2.2.2.2.1 w)
theorem escrow_repaired_s7_se_ok (K : Nat) (R : Rg) (h : subRB [(16, 17), (125, 145)] R = true) : (escrow_repaired_s7_se K).Ok prog R (cd (bodyOf f33) [1, 1, 1, 1, 1, 1, 1, 1, 0, 1, 0, 0, 1, 1, 0, 0, 1, 1, 0, 1]) := stmtN_ok (Li := [(5, .addr), (6, .sl), (7, .val), (14, .int .i64), (15, .int .u8), (16, .int .u8), (124, .bool)]) (Lo := [(16, .int .u8)]) (S := (fun x w => escrow_repaired_s7 K x.1 x.2.1 x.2.2.1 x.2.2.2.1 x.2.2.2.2.1 x.2.2.2.2.2.1 x.2.2.2.2.2.2.1 w)) (escrow_repaired_s7_ok K) (subR_of h)
theorem escrow_repaired_l9_ok (K : Nat) (n : Nat) : StmtNOk prog [(5, .addr), (6, .sl), (7, .val), (13, .sl), (15, .int .u8), (16, .int .u8), (17, .int .i64), (113, .sl), (114, .int .i64), (115, .int .i64), (146, .int .i64), (147, .int .i64)] [(17, .int .i64)] [(17, 19), (147, 160)] ((fun n x w => escrow_repaired_l9 K n x.1 x.2.1 x.2.2.1 x.2.2.2.1 x.2.2.2.2.1 x.2.2.2.2.2.1 x.2.2.2.2.2.2.1 x.2.2.2.2.2.2.2.1 x.2.2.2.2.2.2.2.2.1 x.2.2.2.2.2.2.2.2.2.1 x.2.2.2.2.2.2.2.2.2.2.1 x.2.2.2.2.2.2.2.2.2.2.2.1 w) n) (.block 4 (.loop (cd (bodyOf f33) [1, 1, 1, 1, 1, 1, 1, 1, 0, 1, 0, 0, 1, 1, 0, 0, 1, 1, 1, 1, 0, 1, 0, 0]))) :=
    mk_loopN (O := tabL []) (root := (bodyOf f33)) (π := [1, 1, 1, 1, 1, 1, 1, 1, 0, 1, 0, 0, 1, 1, 0, 0, 1, 1, 1, 1, 0, 1, 0, 0]) (id := 4) (Li := [(5, .addr), (6, .sl), (7, .val), (13, .sl), (15, .int .u8), (16, .int .u8), (17, .int .i64), (113, .sl), (114, .int .i64), (115, .int .i64), (146, .int .i64), (147, .int .i64)]) (Lo := [(17, .int .i64)]) (S := (fun n x w => escrow_repaired_l9 K n x.1 x.2.1 x.2.2.1 x.2.2.2.1 x.2.2.2.2.1 x.2.2.2.2.2.1 x.2.2.2.2.2.2.1 x.2.2.2.2.2.2.2.1 x.2.2.2.2.2.2.2.2.1 x.2.2.2.2.2.2.2.2.2.1 x.2.2.2.2.2.2.2.2.2.2.1 x.2.2.2.2.2.2.2.2.2.2.2.1 w)) (body := cd (bodyOf f33) [1, 1, 1, 1, 1, 1, 1, 1, 0, 1, 0, 0, 1, 1, 0, 0, 1, 1, 1, 1, 0, 1, 0, 0]) (escrow_repaired_Eok K) (escrow_repaired_Rok K) rfl (Orc.nil _ _ _) (by kernel_rfl) (fun _ _ => by kernel_rfl) (fun _ _ _ => by kernel_rfl) n
noncomputable def escrow_repaired_l9_se (K : Nat) : SE := stmtN [(5, .addr), (6, .sl), (7, .val), (13, .sl), (15, .int .u8), (16, .int .u8), (17, .int .i64), (113, .sl), (114, .int .i64), (115, .int .i64), (146, .int .i64), (147, .int .i64)] [(17, .int .i64)] [(17, 19), (147, 160)] (fun x w => escrow_repaired_l9 K K x.1 x.2.1 x.2.2.1 x.2.2.2.1 x.2.2.2.2.1 x.2.2.2.2.2.1 x.2.2.2.2.2.2.1 x.2.2.2.2.2.2.2.1 x.2.2.2.2.2.2.2.2.1 x.2.2.2.2.2.2.2.2.2.1 x.2.2.2.2.2.2.2.2.2.2.1 x.2.2.2.2.2.2.2.2.2.2.2.1 w)
theorem escrow_repaired_l9_se_ok (K : Nat) (R : Rg) (h : subRB [(17, 19), (147, 160)] R = true) : (escrow_repaired_l9_se K).Ok prog R (.block 4 (.loop (cd (bodyOf f33) [1, 1, 1, 1, 1, 1, 1, 1, 0, 1, 0, 0, 1, 1, 0, 0, 1, 1, 1, 1, 0, 1, 0, 0]))) := stmtN_ok (Li := [(5, .addr), (6, .sl), (7, .val), (13, .sl), (15, .int .u8), (16, .int .u8), (17, .int .i64), (113, .sl), (114, .int .i64), (115, .int .i64), (146, .int .i64), (147, .int .i64)]) (Lo := [(17, .int .i64)]) (S := (fun x w => escrow_repaired_l9 K K x.1 x.2.1 x.2.2.1 x.2.2.2.1 x.2.2.2.2.1 x.2.2.2.2.2.1 x.2.2.2.2.2.2.1 x.2.2.2.2.2.2.2.1 x.2.2.2.2.2.2.2.2.1 x.2.2.2.2.2.2.2.2.2.1 x.2.2.2.2.2.2.2.2.2.2.1 x.2.2.2.2.2.2.2.2.2.2.2.1 w)) (escrow_repaired_l9_ok K K) (subR_of h)
theorem escrow_repaired_l6_ok (K : Nat) (n : Nat) : StmtOk prog [(5, .addr), (6, .sl), (7, .val), (13, .sl), (113, .sl), (114, .int .i64), (115, .int .i64)] [] [(2, .sl), (3, .int .i64), (4, .bool)] [(2, 5), (14, 19), (115, 170)] ((fun n x w => escrow_repaired_l6 K n x.1 x.2.1 x.2.2.1 x.2.2.2.1 x.2.2.2.2.1 x.2.2.2.2.2.1 x.2.2.2.2.2.2.1 w) n) (.block 2 (.loop (cd (bodyOf f33) [1, 1, 1, 1, 1, 1, 1, 1, 0, 1, 0, 0]))) :=
    mk_loop (O := tabL [([1, 1, 1, 1, 1, 1, 1, 1, 0, 1, 0, 0, 1, 1, 0, 0, 1, 1, 0, 1], escrow_repaired_s7_se K), ([1, 1, 1, 1, 1, 1, 1, 1, 0, 1, 0, 0, 1, 1, 0, 0, 1, 1, 0, 1, 0], escrow_repaired_s8_se K), ([1, 1, 1, 1, 1, 1, 1, 1, 0, 1, 0, 0, 1, 1, 0, 0, 1, 1, 1, 1, 0, 1], escrow_repaired_l9_se K)]) (root := (bodyOf f33)) (π := [1, 1, 1, 1, 1, 1, 1, 1, 0, 1, 0, 0]) (id := 2) (Li := [(5, .addr), (6, .sl), (7, .val), (13, .sl), (113, .sl), (114, .int .i64), (115, .int .i64)]) (Lo := []) (Lr := [(2, .sl), (3, .int .i64), (4, .bool)]) (S := (fun n x w => escrow_repaired_l6 K n x.1 x.2.1 x.2.2.1 x.2.2.2.1 x.2.2.2.2.1 x.2.2.2.2.2.1 x.2.2.2.2.2.2.1 w)) (body := cd (bodyOf f33) [1, 1, 1, 1, 1, 1, 1, 1, 0, 1, 0, 0]) (escrow_repaired_Eok K) (escrow_repaired_Rok K) rfl (Orc.cons (by kernel_rfl) (escrow_repaired_s7_se_ok K [(2, 5), (14, 19), (115, 170)] (by kernel_rfl)) (Orc.cons (by kernel_rfl) (escrow_repaired_s8_se_ok K [(2, 5), (14, 19), (115, 170)] (by kernel_rfl)) (Orc.cons (by kernel_rfl) (escrow_repaired_l9_se_ok K [(2, 5), (14, 19), (115, 170)] (by kernel_rfl)) (Orc.nil _ _ _)))) (by kernel_rfl) (fun _ _ => by kernel_rfl) (fun _ _ _ => by kernel_rfl) n
noncomputable def escrow_repaired_l6_se (K : Nat) : SE := stmt [(5, .addr), (6, .sl), (7, .val), (13, .sl), (113, .sl), (114, .int .i64), (115, .int .i64)] [] [(2, .sl), (3, .int .i64), (4, .bool)] [(2, 5), (14, 19), (115, 170)] (fun x w => escrow_repaired_l6 K K x.1 x.2.1 x.2.2.1 x.2.2.2.1 x.2.2.2.2.1 x.2.2.2.2.2.1 x.2.2.2.2.2.2.1 w)
theorem escrow_repaired_l6_se_ok (K : Nat) (R : Rg) (h : subRB [(2, 5), (14, 19), (115, 170)] R = true) : (escrow_repaired_l6_se K).Ok prog R (.block 2 (.loop (cd (bodyOf f33) [1, 1, 1, 1, 1, 1, 1, 1, 0, 1, 0, 0]))) := stmt_ok (Li := [(5, .addr), (6, .sl), (7, .val), (13, .sl), (113, .sl), (114, .int .i64), (115, .int .i64)]) (Lo := []) (Lr := [(2, .sl), (3, .int .i64), (4, .bool)]) (S := (fun x w => escrow_repaired_l6 K K x.1 x.2.1 x.2.2.1 x.2.2.2.1 x.2.2.2.2.1 x.2.2.2.2.2.1 x.2.2.2.2.2.2.1 w)) (escrow_repaired_l6_ok K K) (subR_of h)
theorem escrow_repaired_facts : FunFacts prog 33 f33 (bodyOf f33) [(0, .sl)] [(0, 177)] := ⟨func33, by kernel_rfl, by kernel_rfl, by kernel_rfl, by kernel_rfl, by kernel_rfl⟩
theorem escrow_repaired_calls (K : Nat) (x : TT [(0, .sl)]) (w : World) (y : TR [.sl, .int .i64, .bool]) (w2 : World) (h : escrow_repaired K x.1 w = some (y, w2)) : Calls prog 33 (encA [(0, .sl)] x).toArray w (fun e w3 => e = .returned (resV (encR [.sl, .int .i64, .bool] y)) ∧ w3 = w2) :=
    mk_fun (O := tabL [([1, 1, 1, 1, 1, 0], escrow_repaired_s0_se K), ([1, 1, 1, 1, 1, 1, 0, 1], escrow_repaired_s1_se K), ([1, 1, 1, 1, 1, 1, 0, 1, 0, 0, 0], escrow_repaired_s2_se K), ([1, 1, 1, 1, 1, 1, 0, 1, 1, 0], escrow_repaired_s3_se K), ([1, 1, 1, 1, 1, 1, 0, 1, 1, 1, 0], escrow_repaired_s4_se K), ([1, 1, 1, 1, 1, 1, 0, 1, 1, 1, 1, 0, 1], escrow_repaired_l5_se K), ([1, 1, 1, 1, 1, 1, 1, 1, 0, 1], escrow_repaired_l6_se K), ([1, 1, 1, 1, 1, 1, 1, 1, 0, 1, 0, 0, 1, 1, 0, 0, 1, 1, 0, 1], escrow_repaired_s7_se K), ([1, 1, 1, 1, 1, 1, 1, 1, 0, 1, 0, 0, 1, 1, 0, 0, 1, 1, 0, 1, 0], escrow_repaired_s8_se K), ([1, 1, 1, 1, 1, 1, 1, 1, 0, 1, 0, 0, 1, 1, 0, 0, 1, 1, 1, 1, 0, 1], escrow_repaired_l9_se K)]) (Lp := [(0, .sl)]) (Rt := [.sl, .int .i64, .bool]) (S := (fun x w => escrow_repaired K x.1 w)) (escrow_repaired_Eok K) (escrow_repaired_Rok K) rfl escrow_repaired_facts (Orc.cons (by kernel_rfl) (escrow_repaired_s0_se_ok K [(0, 177)] (by kernel_rfl)) (Orc.cons (by kernel_rfl) (escrow_repaired_s1_se_ok K [(0, 177)] (by kernel_rfl)) (Orc.cons (by kernel_rfl) (escrow_repaired_s2_se_ok K [(0, 177)] (by kernel_rfl)) (Orc.cons (by kernel_rfl) (escrow_repaired_s3_se_ok K [(0, 177)] (by kernel_rfl)) (Orc.cons (by kernel_rfl) (escrow_repaired_s4_se_ok K [(0, 177)] (by kernel_rfl)) (Orc.cons (by kernel_rfl) (escrow_repaired_l5_se_ok K [(0, 177)] (by kernel_rfl)) (Orc.cons (by kernel_rfl) (escrow_repaired_l6_se_ok K [(0, 177)] (by kernel_rfl)) (Orc.cons (by kernel_rfl) (escrow_repaired_s7_se_ok K [(0, 177)] (by kernel_rfl)) (Orc.cons (by kernel_rfl) (escrow_repaired_s8_se_ok K [(0, 177)] (by kernel_rfl)) (Orc.cons (by kernel_rfl) (escrow_repaired_l9_se_ok K [(0, 177)] (by kernel_rfl)) (Orc.nil _ _ _))))))))))) (fun _ _ => by kernel_rfl) x w y w2 h
noncomputable def escrow_repaired_ce (K : Nat) : CE := funE [(0, .sl)] [.sl, .int .i64, .bool] (fun x w => escrow_repaired K x.1 w)
theorem escrow_repaired_ok (K : Nat) : (escrow_repaired_ce K).Ok prog 33 := funE_ok (Rt := [.sl, .int .i64, .bool]) (S := (fun x w => escrow_repaired K x.1 w)) escrow_repaired_facts fun x w y w2 h => escrow_repaired_calls K x w y w2 h

noncomputable def escrow_read_E : List (Nat × CE) := []
theorem escrow_read_Eok : Env.Ok prog (tab (escrow_read_E)) := (Env.nil _)
noncomputable def escrow_read_R : List (Nat × RE) := []
theorem escrow_read_Rok : REnv.Ok prog (tab (escrow_read_R)) := (REnv.nil _)
noncomputable def escrow_read_s0 (b0 : Sl) (w : World) : Option ((Addr × Unit) × World) :=
  (b0.a).bind fun p_3 =>
  if (0 : Int) ≤ 0 ∧ 0 < ((b0.len : Nat) : Int) then ((b0.a).bind fun p_4 =>
  if (0 : Int) ≤ 1 ∧ 1 < ((b0.len : Nat) : Int) then ((b0.a).bind fun p_5 =>
  if (0 : Int) ≤ 2 ∧ 2 < ((b0.len : Nat) : Int) then ((b0.a).bind fun p_6 =>
  if (0 : Int) ≤ 3 ∧ 3 < ((b0.len : Nat) : Int) then ((b0.a).bind fun p_7 =>
  if (0 : Int) ≤ 4 ∧ 4 < ((b0.len : Nat) : Int) then ((ldI .u8 (p_3.add (0 * 1)) w.drew).bind fun v_8 =>
  (ldI .u8 (p_4.add (1 * 1)) w.drew).bind fun v_9 =>
  (ldI .u8 (p_5.add (2 * 1)) w.drew).bind fun v_10 =>
  (ldI .u8 (p_6.add (3 * 1)) w.drew).bind fun v_11 =>
  (ldI .u8 (p_7.add (4 * 1)) w.drew).bind fun v_12 =>
  (prog.built 33 [(0, (.int .u16 (bits .or .u16 (IntKind.u16.wrap ((IntKind.u16.wrap v_8) * 2 ^ 8)) (IntKind.u16.wrap v_9)))), (1, (.int .i64 (IntKind.i64.wrap v_10))), (2, (.int .i64 (IntKind.i64.wrap v_11))), (3, (.int .i64 (IntKind.i64.wrap v_12)))]).bind fun cs_13 =>
  (prog.built 55 [(0, (.agg cs_13))]).bind fun cs_14 =>
  bnd (newB z55 55 w.drew) fun s_15 w_16 =>
  (ldI .u8 (p_7.add (4 * 1)) w_16).bind fun v_17 =>
  sameK (.int .u8 v_12) (.int .u8 v_17) ((ldI .u8 (p_6.add (3 * 1)) w_16).bind fun v_18 =>
  sameK (.int .u8 v_11) (.int .u8 v_18) ((ldI .u8 (p_5.add (2 * 1)) w_16).bind fun v_19 =>
  sameK (.int .u8 v_10) (.int .u8 v_19) ((ldI .u8 (p_4.add (1 * 1)) w_16).bind fun v_20 =>
  sameK (.int .u8 v_9) (.int .u8 v_20) ((ldI .u8 (p_3.add (0 * 1)) w_16).bind fun v_21 =>
  sameK (.int .u8 v_8) (.int .u8 v_21) (if (cs_14).size = 5 then ((stA s_15 cs_14 w_16).bind fun w_22 =>
  (ldI .u8 (p_7.add (4 * 1)) w_22).bind fun v_23 =>
  sameK (.int .u8 v_12) (.int .u8 v_23) ((ldI .u8 (p_6.add (3 * 1)) w_22).bind fun v_24 =>
  sameK (.int .u8 v_11) (.int .u8 v_24) ((ldI .u8 (p_5.add (2 * 1)) w_22).bind fun v_25 =>
  sameK (.int .u8 v_10) (.int .u8 v_25) ((ldI .u8 (p_4.add (1 * 1)) w_22).bind fun v_26 =>
  sameK (.int .u8 v_9) (.int .u8 v_26) ((ldI .u8 (p_3.add (0 * 1)) w_22).bind fun v_27 =>
  sameK (.int .u8 v_8) (.int .u8 v_27) (some ((s_15, ()), w_22))))))) else none)))))) else none) else none) else none) else none) else none
noncomputable def escrow_read_s1 (s4 : Addr) (w : World) : Option ((Bool × Unit) × World) :=
  (ldI .i64 ((s4.add 0).add 1) w).bind fun v_30 =>
  if (decide (v_30 < 1)) = true then (some ((true, ()), w)) else ((ldI .i64 ((s4.add 0).add 1) w).bind fun v_31 =>
  if (decide (v_31 > 16)) = true then (some ((true, ()), w)) else ((ldI .i64 ((s4.add 0).add 2) w).bind fun v_32 =>
  if (decide (v_32 < 1)) = true then (some ((true, ()), w)) else ((ldI .i64 ((s4.add 0).add 3) w).bind fun v_33 =>
  if (decide (v_33 < 1)) = true then (some ((true, ()), w)) else ((ldI .i64 ((s4.add 0).add 3) w).bind fun v_34 =>
  some (((decide (v_34 > 64)), ()), w)))))
noncomputable def escrow_read_s2 (b0 : Sl) (n5 : Int) (pad6 : Int) (w : World) : Option ((Bool × Unit) × World) :=
  if (((b0.len : Nat) : Int) != (IntKind.i64.wrap ((IntKind.i64.wrap ((IntKind.i64.wrap (5 + n5)) + pad6)) + 4))) = true then (some ((true, ()), w)) else (if (pad6 == 1) = true then ((b0.a).bind fun p_41 =>
  if (0 : Int) ≤ (IntKind.i64.wrap (5 + n5)) ∧ (IntKind.i64.wrap (5 + n5)) < ((b0.len : Nat) : Int) then ((ldI .u8 (p_41.add ((Int.toNat (IntKind.i64.wrap (5 + n5))) * 1)) w).bind fun v_42 =>
  some (((v_42 != 0), ()), w)) else none) else (some ((false, ()), w)))
/-- coffer/escrow.read -/
noncomputable def escrow_read (b0 : Sl) (w : World) : Option (((Array Value) × Bool × Unit) × World) :=
  bnd (newB z55 55 w) fun p_1 w_2 =>
  bnd (escrow_read_s0 b0 w_2) fun y_28 w_29 =>
  bnd (escrow_read_s1 y_28.1 w_29) fun y_35 w_36 =>
  if y_35.1 = true then ((prog.built 55 []).bind fun cs_37 =>
  if (cs_37).size = 5 then ((stA p_1 cs_37 w_36).bind fun w_38 =>
  (ldA 5 p_1 w_38).bind fun res_39 =>
  some ((res_39, false, ()), w_38)) else none) else ((ldI .i64 ((y_28.1.add 0).add 3) w_36).bind fun v_40 =>
  bnd (escrow_read_s2 b0 (IntKind.i64.wrap (v_40 + 4)) (Int.tmod (IntKind.i64.wrap (5 + (IntKind.i64.wrap (v_40 + 4)))) 2) w_36) fun y_43 w_44 =>
  if y_43.1 = true then ((prog.built 55 []).bind fun cs_45 =>
  if (cs_45).size = 5 then ((stA p_1 cs_45 w_44).bind fun w_46 =>
  (ldA 5 p_1 w_46).bind fun res_47 =>
  some ((res_47, false, ()), w_46)) else none) else (if (0 : Int) ≤ (IntKind.i64.wrap (5 + (IntKind.i64.wrap (v_40 + 4)))) ∧ (IntKind.i64.wrap (5 + (IntKind.i64.wrap (v_40 + 4)))) ≤ ((b0.cap : Nat) : Int) then (if (0 : Int) ≤ (IntKind.i64.wrap (5 + (IntKind.i64.wrap (v_40 + 4)))) ∧ (IntKind.i64.wrap (5 + (IntKind.i64.wrap (v_40 + 4)))) ≤ (((Int.toNat ((IntKind.i64.wrap (5 + (IntKind.i64.wrap (v_40 + 4)))))) : Nat) : Int) then (if (0 : Int) ≤ 5 ∧ 5 ≤ (((Int.toNat ((IntKind.i64.wrap (5 + (IntKind.i64.wrap (v_40 + 4)))))) : Nat) : Int) then ((stC (y_28.1.add 4) (.slice (sla b0.a 5 (Int.toNat ((IntKind.i64.wrap (5 + (IntKind.i64.wrap (v_40 + 4)))))) 1) ((Int.toNat ((IntKind.i64.wrap (5 + (IntKind.i64.wrap (v_40 + 4)))))) - 5) ((Int.toNat ((IntKind.i64.wrap (5 + (IntKind.i64.wrap (v_40 + 4)))))) - 5)) w_44).bind fun w_48 =>
  (ldA 5 y_28.1 w_48).bind fun v_49 =>
  if (v_49).size = 5 then ((stA p_1 v_49 w_48).bind fun w_50 =>
  (ldA 5 p_1 w_50).bind fun res_51 =>
  some ((res_51, true, ()), w_50)) else none) else none) else none) else none))
theorem escrow_read_s0_ok : StmtNOk prog [(0, .sl)] [(4, .addr)] [(4, 5), (7, 31)] (fun x w => escrow_read_s0 x.1 w) (cd (bodyOf f34) [1, 0]) :=
    mk_regionH (R := [(4, 5), (7, 31)]) (Li := [(0, .sl)]) (Lo := [(4, .addr)]) (S := (fun x w => escrow_read_s0 x.1 w)) (escrow_read_Eok) (escrow_read_Rok) rfl (fun _ _ => by kernel_rfl)
noncomputable def escrow_read_s0_se : SE := stmtN [(0, .sl)] [(4, .addr)] [(4, 5), (7, 31)] (fun x w => escrow_read_s0 x.1 w)
theorem escrow_read_s0_se_ok (R : Rg) (h : subRB [(4, 5), (7, 31)] R = true) : (escrow_read_s0_se).Ok prog R (cd (bodyOf f34) [1, 0]) := stmtN_ok (Li := [(0, .sl)]) (Lo := [(4, .addr)]) (S := (fun x w => escrow_read_s0 x.1 w)) (escrow_read_s0_ok) (subR_of h)
theorem escrow_read_s1_ok : StmtNOk prog [(4, .addr)] [(58, .bool)] [(31, 59)] (fun x w => escrow_read_s1 x.1 w) (cd (bodyOf f34) [1, 1, 0, 0]) :=
    mk_stmtN (O := tabL []) (root := (bodyOf f34)) (π := [1, 1, 0, 0]) (Li := [(4, .addr)]) (Lo := [(58, .bool)]) (S := (fun x w => escrow_read_s1 x.1 w)) (escrow_read_Eok) (escrow_read_Rok) rfl (Orc.nil _ _ _) (by kernel_rfl) (fun _ _ => by kernel_rfl)
noncomputable def escrow_read_s1_se : SE := stmtN [(4, .addr)] [(58, .bool)] [(31, 59)] (fun x w => escrow_read_s1 x.1 w)
theorem escrow_read_s1_se_ok (R : Rg) (h : subRB [(31, 59)] R = true) : (escrow_read_s1_se).Ok prog R (cd (bodyOf f34) [1, 1, 0, 0]) := stmtN_ok (Li := [(4, .addr)]) (Lo := [(58, .bool)]) (S := (fun x w => escrow_read_s1 x.1 w)) (escrow_read_s1_ok) (subR_of h)
theorem escrow_read_s2_ok : StmtNOk prog [(0, .sl), (5, .int .i64), (6, .int .i64)] [(86, .bool)] [(67, 87)] (fun x w => escrow_read_s2 x.1 x.2.1 x.2.2.1 w) (cd (bodyOf f34) [1, 1, 1, 1, 1, 0, 0]) :=
    mk_stmtN (O := tabL []) (root := (bodyOf f34)) (π := [1, 1, 1, 1, 1, 0, 0]) (Li := [(0, .sl), (5, .int .i64), (6, .int .i64)]) (Lo := [(86, .bool)]) (S := (fun x w => escrow_read_s2 x.1 x.2.1 x.2.2.1 w)) (escrow_read_Eok) (escrow_read_Rok) rfl (Orc.nil _ _ _) (by kernel_rfl) (fun _ _ => by kernel_rfl)
noncomputable def escrow_read_s2_se : SE := stmtN [(0, .sl), (5, .int .i64), (6, .int .i64)] [(86, .bool)] [(67, 87)] (fun x w => escrow_read_s2 x.1 x.2.1 x.2.2.1 w)
theorem escrow_read_s2_se_ok (R : Rg) (h : subRB [(67, 87)] R = true) : (escrow_read_s2_se).Ok prog R (cd (bodyOf f34) [1, 1, 1, 1, 1, 0, 0]) := stmtN_ok (Li := [(0, .sl), (5, .int .i64), (6, .int .i64)]) (Lo := [(86, .bool)]) (S := (fun x w => escrow_read_s2 x.1 x.2.1 x.2.2.1 w)) (escrow_read_s2_ok) (subR_of h)
theorem escrow_read_facts : FunFacts prog 34 f34 (bodyOf f34) [(0, .sl)] [(0, 96)] := ⟨func34, by kernel_rfl, by kernel_rfl, by kernel_rfl, by kernel_rfl, by kernel_rfl⟩
theorem escrow_read_calls (x : TT [(0, .sl)]) (w : World) (y : TR [.agg, .bool]) (w2 : World) (h : escrow_read x.1 w = some (y, w2)) : Calls prog 34 (encA [(0, .sl)] x).toArray w (fun e w3 => e = .returned (resV (encR [.agg, .bool] y)) ∧ w3 = w2) :=
    mk_fun (O := tabL [([1, 0], escrow_read_s0_se), ([1, 1, 0, 0], escrow_read_s1_se), ([1, 1, 1, 1, 1, 0, 0], escrow_read_s2_se)]) (Lp := [(0, .sl)]) (Rt := [.agg, .bool]) (S := (fun x w => escrow_read x.1 w)) (escrow_read_Eok) (escrow_read_Rok) rfl escrow_read_facts (Orc.cons (by kernel_rfl) (escrow_read_s0_se_ok [(0, 96)] (by kernel_rfl)) (Orc.cons (by kernel_rfl) (escrow_read_s1_se_ok [(0, 96)] (by kernel_rfl)) (Orc.cons (by kernel_rfl) (escrow_read_s2_se_ok [(0, 96)] (by kernel_rfl)) (Orc.nil _ _ _)))) (fun _ _ => by kernel_rfl) x w y w2 h
noncomputable def escrow_read_ce : CE := funE [(0, .sl)] [.agg, .bool] (fun x w => escrow_read x.1 w)
theorem escrow_read_ok : (escrow_read_ce).Ok prog 34 := funE_ok (Rt := [.agg, .bool]) (S := (fun x w => escrow_read x.1 w)) escrow_read_facts fun x w y w2 h => escrow_read_calls x w y w2 h

noncomputable def escrow_mended_E (K : Nat) : List (Nat × CE) := [(32, escrow_unworded_ce K), (33, escrow_repaired_ce K), (34, escrow_read_ce)]
theorem escrow_mended_Eok (K : Nat) : Env.Ok prog (tab (escrow_mended_E K)) := (Env.cons (escrow_unworded_ok K) (Env.cons (escrow_repaired_ok K) (Env.cons (escrow_read_ok) (Env.nil _))))
noncomputable def escrow_mended_R (K : Nat) : List (Nat × RE) := []
theorem escrow_mended_Rok (K : Nat) : REnv.Ok prog (tab (escrow_mended_R K)) := (REnv.nil _)
noncomputable def escrow_mended_s0 (K : Nat) (b5 : Sl) (w : World) : Option ((Bool × Unit) × World) :=
  if (decide (((b5.len : Nat) : Int) < 14)) = true then (some ((true, ()), w)) else (some (((decide (((b5.len : Nat) : Int) > 78)), ()), w))
/-- coffer/escrow.mended -/
noncomputable def escrow_mended (K : Nat) (text0 : ByteArray) (w : World) : Option (((Array Value) × Int × Int × Unit) × World) :=
  bnd (newB z55 55 w) fun p_1 w_2 =>
  if (decide (((text0.size : Nat) : Int) > 1024)) = true then ((prog.built 55 []).bind fun cs_3 =>
  if (cs_3).size = 5 then ((stA p_1 cs_3 w_2).bind fun w_4 =>
  (ldA 5 p_1 w_4).bind fun res_5 =>
  some ((res_5, 0, 4, ()), w_4)) else none) else (bnd (escrow_unworded K text0 w_2) fun r_6 w_7 =>
  if (!r_6.2.1) = true then ((prog.built 55 []).bind fun cs_8 =>
  if (cs_8).size = 5 then ((stA p_1 cs_8 w_7).bind fun w_9 =>
  (ldA 5 p_1 w_9).bind fun res_10 =>
  some ((res_10, 0, 112, ()), w_9)) else none) else (bnd (escrow_mended_s0 K r_6.1 w_7) fun y_11 w_12 =>
  if y_11.1 = true then ((prog.built 55 []).bind fun cs_13 =>
  if (cs_13).size = 5 then ((stA p_1 cs_13 w_12).bind fun w_14 =>
  (ldA 5 p_1 w_14).bind fun res_15 =>
  some ((res_15, 0, 113, ()), w_14)) else none) else (bnd (escrow_repaired K r_6.1 w_12) fun r_16 w_17 =>
  if (!r_16.2.2.1) = true then ((prog.built 55 []).bind fun cs_18 =>
  if (cs_18).size = 5 then ((stA p_1 cs_18 w_17).bind fun w_19 =>
  (ldA 5 p_1 w_19).bind fun res_20 =>
  some ((res_20, 0, 113, ()), w_19)) else none) else (bnd (escrow_read r_16.1 w_17) fun r_21 w_22 =>
  bnd (newB z55 55 w_22) fun s_23 w_24 =>
  if (r_21.1).size = 5 then ((stA s_23 r_21.1 w_24).bind fun w_25 =>
  if (!r_21.2.1) = true then ((prog.built 55 []).bind fun cs_26 =>
  if (cs_26).size = 5 then ((stA p_1 cs_26 w_25).bind fun w_27 =>
  (ldA 5 p_1 w_27).bind fun res_28 =>
  some ((res_28, 0, 113, ()), w_27)) else none) else ((ldA 5 s_23 w_25).bind fun v_29 =>
  if (v_29).size = 5 then ((stA p_1 v_29 w_25).bind fun w_30 =>
  (ldA 5 p_1 w_30).bind fun res_31 =>
  some ((res_31, r_16.2.1, 0, ()), w_30)) else none)) else none))))
theorem escrow_mended_s0_ok (K : Nat) : StmtNOk prog [(5, .sl)] [(29, .bool)] [(22, 30)] (fun x w => escrow_mended_s0 K x.1 w) (cd (bodyOf f24) [1, 1, 1, 1, 0, 0]) :=
    mk_stmtN (O := tabL []) (root := (bodyOf f24)) (π := [1, 1, 1, 1, 0, 0]) (Li := [(5, .sl)]) (Lo := [(29, .bool)]) (S := (fun x w => escrow_mended_s0 K x.1 w)) (escrow_mended_Eok K) (escrow_mended_Rok K) rfl (Orc.nil _ _ _) (by kernel_rfl) (fun _ _ => by kernel_rfl)
noncomputable def escrow_mended_s0_se (K : Nat) : SE := stmtN [(5, .sl)] [(29, .bool)] [(22, 30)] (fun x w => escrow_mended_s0 K x.1 w)
theorem escrow_mended_s0_se_ok (K : Nat) (R : Rg) (h : subRB [(22, 30)] R = true) : (escrow_mended_s0_se K).Ok prog R (cd (bodyOf f24) [1, 1, 1, 1, 0, 0]) := stmtN_ok (Li := [(5, .sl)]) (Lo := [(29, .bool)]) (S := (fun x w => escrow_mended_s0 K x.1 w)) (escrow_mended_s0_ok K) (subR_of h)
theorem escrow_mended_facts : FunFacts prog 24 f24 (bodyOf f24) [(0, .str)] [(0, 50)] := ⟨func24, by kernel_rfl, by kernel_rfl, by kernel_rfl, by kernel_rfl, by kernel_rfl⟩
theorem escrow_mended_calls (K : Nat) (x : TT [(0, .str)]) (w : World) (y : TR [.agg, .int .i64, .int .i64]) (w2 : World) (h : escrow_mended K x.1 w = some (y, w2)) : Calls prog 24 (encA [(0, .str)] x).toArray w (fun e w3 => e = .returned (resV (encR [.agg, .int .i64, .int .i64] y)) ∧ w3 = w2) :=
    mk_fun (O := tabL [([1, 1, 1, 1, 0, 0], escrow_mended_s0_se K)]) (Lp := [(0, .str)]) (Rt := [.agg, .int .i64, .int .i64]) (S := (fun x w => escrow_mended K x.1 w)) (escrow_mended_Eok K) (escrow_mended_Rok K) rfl escrow_mended_facts (Orc.cons (by kernel_rfl) (escrow_mended_s0_se_ok K [(0, 50)] (by kernel_rfl)) (Orc.nil _ _ _)) (fun _ _ => by kernel_rfl) x w y w2 h
noncomputable def escrow_mended_ce (K : Nat) : CE := funE [(0, .str)] [.agg, .int .i64, .int .i64] (fun x w => escrow_mended K x.1 w)
theorem escrow_mended_ok (K : Nat) : (escrow_mended_ce K).Ok prog 24 := funE_ok (Rt := [.agg, .int .i64, .int .i64]) (S := (fun x w => escrow_mended K x.1 w)) escrow_mended_facts fun x w y w2 h => escrow_mended_calls K x w y w2 h

end Go.Sh

/- What functions of the program do, as Lean functions; that the machine does just that. Printed by shal.py, a program of this claim's writer. -/
set_option maxRecDepth 100000
set_option linter.unusedVariables false
namespace Go.Sh
open Go.Fw Go.Proofs.Try

noncomputable def escrow_coded_E (K : Nat) : List (Nat × CE) := [(44, slices_Clone_byte_byte_ce)]
theorem escrow_coded_Eok (K : Nat) : Env.Ok prog (tab (escrow_coded_E K)) := (Env.cons (slices_Clone_byte_byte_ok) (Env.nil _))
noncomputable def escrow_coded_R (K : Nat) : List (Nat × RE) := [(43, escrow_power_re K), (41, rijndael_Times_re K)]
theorem escrow_coded_Rok (K : Nat) : REnv.Ok prog (tab (escrow_coded_R K)) := (REnv.cons (escrow_power_ok K) (REnv.cons (rijndael_Times_ok K) (REnv.nil _)))
noncomputable def escrow_coded_l1_b (K : Nat) (rec : Sl → Int → Sl → Int → Sl → Int → Int → World → Option ((Unit) × World)) (b0 : Sl) (j4 : Int) (next5 : Sl) (a14 : Int) (a21 : Sl) (a22 : Int) (a23 : Int) (w : World) : Option ((Unit) × World) :=
  if (decide (a23 < a22)) = true then ((a21.a).bind fun p_9 =>
  if (0 : Int) ≤ a23 ∧ a23 < ((a21.len : Nat) : Int) then ((ldI .u8 (p_9.add ((Int.toNat a23) * 1)) w).bind fun v_10 =>
  (next5.a).bind fun p_11 =>
  if (0 : Int) ≤ (IntKind.i64.wrap (a23 + 1)) ∧ (IntKind.i64.wrap (a23 + 1)) < ((next5.len : Nat) : Int) then ((ldI .u8 (p_11.add ((Int.toNat (IntKind.i64.wrap (a23 + 1))) * 1)) w.drew).bind fun v_12 =>
  (escrow_power K j4).bind fun r_13 =>
  (rijndael_Times K v_10 r_13.1).bind fun r_14 =>
  (next5.a).bind fun p_15 =>
  if (0 : Int) ≤ (IntKind.i64.wrap (a23 + 1)) ∧ (IntKind.i64.wrap (a23 + 1)) < ((next5.len : Nat) : Int) then ((stC (p_15.add ((Int.toNat (IntKind.i64.wrap (a23 + 1))) * 1)) (.int .u8 (bits .xor .u8 v_12 r_14.1)) w.drew).bind fun w_16 =>
  rec b0 j4 next5 a14 a21 a22 (IntKind.i64.wrap (a23 + 1)) w_16) else none) else none) else none) else (some ((), w))
noncomputable def escrow_coded_l1 (K : Nat) (n : Nat) : Sl → Int → Sl → Int → Sl → Int → Int → World → Option ((Unit) × World) := iter (fun _ _ _ _ _ _ _ _ => none) (escrow_coded_l1_b K) n
noncomputable def escrow_coded_l0_b (K : Nat) (rec : Sl → Sl → Int → World → Option ((Sl × Unit) × World)) (b0 : Sl) (g3 : Sl) (a14 : Int) (w : World) : Option ((Sl × Unit) × World) :=
  if (decide (a14 < 4)) = true then (bnd (slices_Clone_byte_byte g3 w) fun r_3 w_4 =>
  bnd (bldS prog 25 1 #[(0, (.int .u8 0))] w_4) fun s_5 w_6 =>
  bnd (apd prog 25 25 (.slice r_3.1.a r_3.1.len r_3.1.cap) (.slice s_5.a s_5.len s_5.cap) w_6) fun s_7 w_8 =>
  bnd (escrow_coded_l1 K K b0 a14 s_7 a14 g3 ((g3.len : Nat) : Int) 0 w_8) fun y_17 w_18 =>
  rec b0 s_7 (IntKind.i64.wrap (a14 + 1)) w_18) else (some ((g3, ()), w))
noncomputable def escrow_coded_l0 (K : Nat) (n : Nat) : Sl → Sl → Int → World → Option ((Sl × Unit) × World) := iter (fun _ _ _ _ => none) (escrow_coded_l0_b K) n
noncomputable def escrow_coded_l3_b (K : Nat) (rec : Sl → Sl → Sl → Int → Int → Int → Int → Sl → Int → Int → World → Option ((Unit) × World)) (b0 : Sl) (g3 : Sl) (rest8 : Sl) (i9 : Int) (c10 : Int) (a46 : Int) (a47 : Int) (a54 : Sl) (a55 : Int) (a56 : Int) (w : World) : Option ((Unit) × World) :=
  if (decide (a56 < a55)) = true then ((a54.a).bind fun p_27 =>
  if (0 : Int) ≤ a56 ∧ a56 < ((a54.len : Nat) : Int) then ((ldI .u8 (p_27.add ((Int.toNat a56) * 1)) w).bind fun v_28 =>
  (rest8.a).bind fun p_29 =>
  if (0 : Int) ≤ (IntKind.i64.wrap (i9 + a56)) ∧ (IntKind.i64.wrap (i9 + a56)) < ((rest8.len : Nat) : Int) then ((ldI .u8 (p_29.add ((Int.toNat (IntKind.i64.wrap (i9 + a56))) * 1)) w.drew).bind fun v_30 =>
  (rijndael_Times K c10 v_28).bind fun r_31 =>
  (rest8.a).bind fun p_32 =>
  if (0 : Int) ≤ (IntKind.i64.wrap (i9 + a56)) ∧ (IntKind.i64.wrap (i9 + a56)) < ((rest8.len : Nat) : Int) then ((stC (p_32.add ((Int.toNat (IntKind.i64.wrap (i9 + a56))) * 1)) (.int .u8 (bits .xor .u8 v_30 r_31.1)) w.drew).bind fun w_33 =>
  rec b0 g3 rest8 i9 c10 a46 a47 a54 a55 (IntKind.i64.wrap (a56 + 1)) w_33) else none) else none) else none) else (some ((), w))
noncomputable def escrow_coded_l3 (K : Nat) (n : Nat) : Sl → Sl → Sl → Int → Int → Int → Int → Sl → Int → Int → World → Option ((Unit) × World) := iter (fun _ _ _ _ _ _ _ _ _ _ _ => none) (escrow_coded_l3_b K) n
noncomputable def escrow_coded_l2_b (K : Nat) (rec : Sl → Sl → Sl → Int → Int → World → Option ((Unit) × World)) (b0 : Sl) (g3 : Sl) (rest8 : Sl) (a46 : Int) (a47 : Int) (w : World) : Option ((Unit) × World) :=
  if (decide (a47 < a46)) = true then ((rest8.a).bind fun p_25 =>
  if (0 : Int) ≤ a47 ∧ a47 < ((rest8.len : Nat) : Int) then ((ldI .u8 (p_25.add ((Int.toNat a47) * 1)) w).bind fun v_26 =>
  bnd (escrow_coded_l3 K K b0 g3 rest8 a47 v_26 a46 a47 g3 ((g3.len : Nat) : Int) 0 w) fun y_34 w_35 =>
  rec b0 g3 rest8 a46 (IntKind.i64.wrap (a47 + 1)) w_35) else none) else (some ((), w))
noncomputable def escrow_coded_l2 (K : Nat) (n : Nat) : Sl → Sl → Sl → Int → Int → World → Option ((Unit) × World) := iter (fun _ _ _ _ _ _ => none) (escrow_coded_l2_b K) n
/-- coffer/escrow.coded -/
noncomputable def escrow_coded (K : Nat) (b0 : Sl) (w : World) : Option ((Sl × Unit) × World) :=
  bnd (bldS prog 25 1 #[(0, (.int .u8 1))] w) fun s_1 w_2 =>
  bnd (escrow_coded_l0 K K b0 s_1 0 w_2) fun y_19 w_20 =>
  bnd (slices_Clone_byte_byte b0 w_20) fun r_21 w_22 =>
  bnd (apd prog 25 3 (.slice r_21.1.a r_21.1.len r_21.1.cap) (.int .i64 4) w_22) fun s_23 w_24 =>
  bnd (escrow_coded_l2 K K b0 y_19.1 s_23 ((b0.len : Nat) : Int) 0 w_24) fun y_36 w_37 =>
  if (0 : Int) ≤ ((b0.len : Nat) : Int) ∧ ((b0.len : Nat) : Int) ≤ ((s_23.len : Nat) : Int) then (bnd (slices_Clone_byte_byte b0 w_37.drew) fun r_38 w_39 =>
  bnd (apd prog 25 25 (.slice r_38.1.a r_38.1.len r_38.1.cap) (.slice (sla s_23.a (Int.toNat (((b0.len : Nat) : Int))) s_23.cap 1) (s_23.len - (Int.toNat (((b0.len : Nat) : Int)))) (s_23.cap - (Int.toNat (((b0.len : Nat) : Int))))) w_39) fun s_40 w_41 =>
  some ((s_40, ()), w_41)) else none
theorem escrow_coded_l1_ok (K : Nat) (n : Nat) : StmtNOk prog [(0, .sl), (4, .int .i64), (5, .sl), (14, .int .i64), (21, .sl), (22, .int .i64), (23, .int .i64)] [] [(6, 8), (23, 40)] ((fun n x w => escrow_coded_l1 K n x.1 x.2.1 x.2.2.1 x.2.2.2.1 x.2.2.2.2.1 x.2.2.2.2.2.1 x.2.2.2.2.2.2.1 w) n) (.block 2 (.loop (cd (bodyOf f45) [1, 1, 0, 1, 0, 0, 1, 1, 0, 0, 1, 1, 0, 1, 0, 0]))) :=
    mk_loopN (O := tabL []) (root := (bodyOf f45)) (π := [1, 1, 0, 1, 0, 0, 1, 1, 0, 0, 1, 1, 0, 1, 0, 0]) (id := 2) (Li := [(0, .sl), (4, .int .i64), (5, .sl), (14, .int .i64), (21, .sl), (22, .int .i64), (23, .int .i64)]) (Lo := []) (S := (fun n x w => escrow_coded_l1 K n x.1 x.2.1 x.2.2.1 x.2.2.2.1 x.2.2.2.2.1 x.2.2.2.2.2.1 x.2.2.2.2.2.2.1 w)) (body := cd (bodyOf f45) [1, 1, 0, 1, 0, 0, 1, 1, 0, 0, 1, 1, 0, 1, 0, 0]) (escrow_coded_Eok K) (escrow_coded_Rok K) rfl (Orc.nil _ _ _) (by kernel_rfl) (fun _ _ => by kernel_rfl) (fun _ _ _ => by kernel_rfl) n
noncomputable def escrow_coded_l1_se (K : Nat) : SE := stmtN [(0, .sl), (4, .int .i64), (5, .sl), (14, .int .i64), (21, .sl), (22, .int .i64), (23, .int .i64)] [] [(6, 8), (23, 40)] (fun x w => escrow_coded_l1 K K x.1 x.2.1 x.2.2.1 x.2.2.2.1 x.2.2.2.2.1 x.2.2.2.2.2.1 x.2.2.2.2.2.2.1 w)
theorem escrow_coded_l1_se_ok (K : Nat) (R : Rg) (h : subRB [(6, 8), (23, 40)] R = true) : (escrow_coded_l1_se K).Ok prog R (.block 2 (.loop (cd (bodyOf f45) [1, 1, 0, 1, 0, 0, 1, 1, 0, 0, 1, 1, 0, 1, 0, 0]))) := stmtN_ok (Li := [(0, .sl), (4, .int .i64), (5, .sl), (14, .int .i64), (21, .sl), (22, .int .i64), (23, .int .i64)]) (Lo := []) (S := (fun x w => escrow_coded_l1 K K x.1 x.2.1 x.2.2.1 x.2.2.2.1 x.2.2.2.2.1 x.2.2.2.2.2.1 x.2.2.2.2.2.2.1 w)) (escrow_coded_l1_ok K K) (subR_of h)
theorem escrow_coded_l0_ok (K : Nat) (n : Nat) : StmtNOk prog [(0, .sl), (3, .sl), (14, .int .i64)] [(3, .sl)] [(3, 8), (14, 42)] ((fun n x w => escrow_coded_l0 K n x.1 x.2.1 x.2.2.1 w) n) (.block 0 (.loop (cd (bodyOf f45) [1, 1, 0, 1, 0, 0]))) :=
    mk_loopN (O := tabL [([1, 1, 0, 1, 0, 0, 1, 1, 0, 0, 1, 1, 0, 1], escrow_coded_l1_se K)]) (root := (bodyOf f45)) (π := [1, 1, 0, 1, 0, 0]) (id := 0) (Li := [(0, .sl), (3, .sl), (14, .int .i64)]) (Lo := [(3, .sl)]) (S := (fun n x w => escrow_coded_l0 K n x.1 x.2.1 x.2.2.1 w)) (body := cd (bodyOf f45) [1, 1, 0, 1, 0, 0]) (escrow_coded_Eok K) (escrow_coded_Rok K) rfl (Orc.cons (by kernel_rfl) (escrow_coded_l1_se_ok K [(3, 8), (14, 42)] (by kernel_rfl)) (Orc.nil _ _ _)) (by kernel_rfl) (fun _ _ => by kernel_rfl) (fun _ _ _ => by kernel_rfl) n
noncomputable def escrow_coded_l0_se (K : Nat) : SE := stmtN [(0, .sl), (3, .sl), (14, .int .i64)] [(3, .sl)] [(3, 8), (14, 42)] (fun x w => escrow_coded_l0 K K x.1 x.2.1 x.2.2.1 w)
theorem escrow_coded_l0_se_ok (K : Nat) (R : Rg) (h : subRB [(3, 8), (14, 42)] R = true) : (escrow_coded_l0_se K).Ok prog R (.block 0 (.loop (cd (bodyOf f45) [1, 1, 0, 1, 0, 0]))) := stmtN_ok (Li := [(0, .sl), (3, .sl), (14, .int .i64)]) (Lo := [(3, .sl)]) (S := (fun x w => escrow_coded_l0 K K x.1 x.2.1 x.2.2.1 w)) (escrow_coded_l0_ok K K) (subR_of h)
theorem escrow_coded_l3_ok (K : Nat) (n : Nat) : StmtNOk prog [(0, .sl), (3, .sl), (8, .sl), (9, .int .i64), (10, .int .u8), (46, .int .i64), (47, .int .i64), (54, .sl), (55, .int .i64), (56, .int .i64)] [] [(11, 13), (56, 73)] ((fun n x w => escrow_coded_l3 K n x.1 x.2.1 x.2.2.1 x.2.2.2.1 x.2.2.2.2.1 x.2.2.2.2.2.1 x.2.2.2.2.2.2.1 x.2.2.2.2.2.2.2.1 x.2.2.2.2.2.2.2.2.1 x.2.2.2.2.2.2.2.2.2.1 w) n) (.block 6 (.loop (cd (bodyOf f45) [1, 1, 1, 1, 0, 1, 0, 0, 1, 1, 0, 0, 1, 1, 1, 0, 0]))) :=
    mk_loopN (O := tabL []) (root := (bodyOf f45)) (π := [1, 1, 1, 1, 0, 1, 0, 0, 1, 1, 0, 0, 1, 1, 1, 0, 0]) (id := 6) (Li := [(0, .sl), (3, .sl), (8, .sl), (9, .int .i64), (10, .int .u8), (46, .int .i64), (47, .int .i64), (54, .sl), (55, .int .i64), (56, .int .i64)]) (Lo := []) (S := (fun n x w => escrow_coded_l3 K n x.1 x.2.1 x.2.2.1 x.2.2.2.1 x.2.2.2.2.1 x.2.2.2.2.2.1 x.2.2.2.2.2.2.1 x.2.2.2.2.2.2.2.1 x.2.2.2.2.2.2.2.2.1 x.2.2.2.2.2.2.2.2.2.1 w)) (body := cd (bodyOf f45) [1, 1, 1, 1, 0, 1, 0, 0, 1, 1, 0, 0, 1, 1, 1, 0, 0]) (escrow_coded_Eok K) (escrow_coded_Rok K) rfl (Orc.nil _ _ _) (by kernel_rfl) (fun _ _ => by kernel_rfl) (fun _ _ _ => by kernel_rfl) n
noncomputable def escrow_coded_l3_se (K : Nat) : SE := stmtN [(0, .sl), (3, .sl), (8, .sl), (9, .int .i64), (10, .int .u8), (46, .int .i64), (47, .int .i64), (54, .sl), (55, .int .i64), (56, .int .i64)] [] [(11, 13), (56, 73)] (fun x w => escrow_coded_l3 K K x.1 x.2.1 x.2.2.1 x.2.2.2.1 x.2.2.2.2.1 x.2.2.2.2.2.1 x.2.2.2.2.2.2.1 x.2.2.2.2.2.2.2.1 x.2.2.2.2.2.2.2.2.1 x.2.2.2.2.2.2.2.2.2.1 w)
theorem escrow_coded_l3_se_ok (K : Nat) (R : Rg) (h : subRB [(11, 13), (56, 73)] R = true) : (escrow_coded_l3_se K).Ok prog R (.block 6 (.loop (cd (bodyOf f45) [1, 1, 1, 1, 0, 1, 0, 0, 1, 1, 0, 0, 1, 1, 1, 0, 0]))) := stmtN_ok (Li := [(0, .sl), (3, .sl), (8, .sl), (9, .int .i64), (10, .int .u8), (46, .int .i64), (47, .int .i64), (54, .sl), (55, .int .i64), (56, .int .i64)]) (Lo := []) (S := (fun x w => escrow_coded_l3 K K x.1 x.2.1 x.2.2.1 x.2.2.2.1 x.2.2.2.2.1 x.2.2.2.2.2.1 x.2.2.2.2.2.2.1 x.2.2.2.2.2.2.2.1 x.2.2.2.2.2.2.2.2.1 x.2.2.2.2.2.2.2.2.2.1 w)) (escrow_coded_l3_ok K K) (subR_of h)
theorem escrow_coded_l2_ok (K : Nat) (n : Nat) : StmtNOk prog [(0, .sl), (3, .sl), (8, .sl), (46, .int .i64), (47, .int .i64)] [] [(9, 13), (47, 74)] ((fun n x w => escrow_coded_l2 K n x.1 x.2.1 x.2.2.1 x.2.2.2.1 x.2.2.2.2.1 w) n) (.block 4 (.loop (cd (bodyOf f45) [1, 1, 1, 1, 0, 1, 0, 0]))) :=
    mk_loopN (O := tabL [([1, 1, 1, 1, 0, 1, 0, 0, 1, 1, 0, 0, 1, 1, 1], escrow_coded_l3_se K)]) (root := (bodyOf f45)) (π := [1, 1, 1, 1, 0, 1, 0, 0]) (id := 4) (Li := [(0, .sl), (3, .sl), (8, .sl), (46, .int .i64), (47, .int .i64)]) (Lo := []) (S := (fun n x w => escrow_coded_l2 K n x.1 x.2.1 x.2.2.1 x.2.2.2.1 x.2.2.2.2.1 w)) (body := cd (bodyOf f45) [1, 1, 1, 1, 0, 1, 0, 0]) (escrow_coded_Eok K) (escrow_coded_Rok K) rfl (Orc.cons (by kernel_rfl) (escrow_coded_l3_se_ok K [(9, 13), (47, 74)] (by kernel_rfl)) (Orc.nil _ _ _)) (by kernel_rfl) (fun _ _ => by kernel_rfl) (fun _ _ _ => by kernel_rfl) n
noncomputable def escrow_coded_l2_se (K : Nat) : SE := stmtN [(0, .sl), (3, .sl), (8, .sl), (46, .int .i64), (47, .int .i64)] [] [(9, 13), (47, 74)] (fun x w => escrow_coded_l2 K K x.1 x.2.1 x.2.2.1 x.2.2.2.1 x.2.2.2.2.1 w)
theorem escrow_coded_l2_se_ok (K : Nat) (R : Rg) (h : subRB [(9, 13), (47, 74)] R = true) : (escrow_coded_l2_se K).Ok prog R (.block 4 (.loop (cd (bodyOf f45) [1, 1, 1, 1, 0, 1, 0, 0]))) := stmtN_ok (Li := [(0, .sl), (3, .sl), (8, .sl), (46, .int .i64), (47, .int .i64)]) (Lo := []) (S := (fun x w => escrow_coded_l2 K K x.1 x.2.1 x.2.2.1 x.2.2.2.1 x.2.2.2.2.1 w)) (escrow_coded_l2_ok K K) (subR_of h)
theorem escrow_coded_facts : FunFacts prog 45 f45 (bodyOf f45) [(0, .sl)] [(0, 81)] := ⟨func45, by kernel_rfl, by kernel_rfl, by kernel_rfl, by kernel_rfl, by kernel_rfl⟩
theorem escrow_coded_calls (K : Nat) (x : TT [(0, .sl)]) (w : World) (y : TR [.sl]) (w2 : World) (h : escrow_coded K x.1 w = some (y, w2)) : Calls prog 45 (encA [(0, .sl)] x).toArray w (fun e w3 => e = .returned (resV (encR [.sl] y)) ∧ w3 = w2) :=
    mk_fun (O := tabL [([1, 1, 0, 1], escrow_coded_l0_se K), ([1, 1, 0, 1, 0, 0, 1, 1, 0, 0, 1, 1, 0, 1], escrow_coded_l1_se K), ([1, 1, 1, 1, 0, 1], escrow_coded_l2_se K), ([1, 1, 1, 1, 0, 1, 0, 0, 1, 1, 0, 0, 1, 1, 1], escrow_coded_l3_se K)]) (Lp := [(0, .sl)]) (Rt := [.sl]) (S := (fun x w => escrow_coded K x.1 w)) (escrow_coded_Eok K) (escrow_coded_Rok K) rfl escrow_coded_facts (Orc.cons (by kernel_rfl) (escrow_coded_l0_se_ok K [(0, 81)] (by kernel_rfl)) (Orc.cons (by kernel_rfl) (escrow_coded_l1_se_ok K [(0, 81)] (by kernel_rfl)) (Orc.cons (by kernel_rfl) (escrow_coded_l2_se_ok K [(0, 81)] (by kernel_rfl)) (Orc.cons (by kernel_rfl) (escrow_coded_l3_se_ok K [(0, 81)] (by kernel_rfl)) (Orc.nil _ _ _))))) (fun _ _ => by kernel_rfl) x w y w2 h
noncomputable def escrow_coded_ce (K : Nat) : CE := funE [(0, .sl)] [.sl] (fun x w => escrow_coded K x.1 w)
theorem escrow_coded_ok (K : Nat) : (escrow_coded_ce K).Ok prog 45 := funE_ok (Rt := [.sl]) (S := (fun x w => escrow_coded K x.1 w)) escrow_coded_facts fun x w y w2 h => escrow_coded_calls K x w y w2 h

noncomputable def escrow_share_bytes_E (K : Nat) : List (Nat × CE) := [(45, escrow_coded_ce K)]
theorem escrow_share_bytes_Eok (K : Nat) : Env.Ok prog (tab (escrow_share_bytes_E K)) := (Env.cons (escrow_coded_ok K) (Env.nil _))
noncomputable def escrow_share_bytes_R (K : Nat) : List (Nat × RE) := []
theorem escrow_share_bytes_Rok (K : Nat) : REnv.Ok prog (tab (escrow_share_bytes_R K)) := (REnv.nil _)
/-- (coffer/escrow.share).bytes -/
noncomputable def escrow_share_bytes (K : Nat) (s0 : Array Value) (w : World) : Option ((Sl × Unit) × World) :=
  bnd (newB s0 55 w) fun p_1 w_2 =>
  (ldI .u16 ((p_1.add 0).add 0) w_2).bind fun v_3 =>
  (ldI .u16 ((p_1.add 0).add 0) w_2).bind fun v_4 =>
  (ldI .i64 ((p_1.add 0).add 1) w_2).bind fun v_5 =>
  (ldI .i64 ((p_1.add 0).add 2) w_2).bind fun v_6 =>
  (ldI .i64 ((p_1.add 0).add 3) w_2).bind fun v_7 =>
  bnd (bldS prog 25 5 #[(0, (.int .u8 (IntKind.u8.wrap (Int.fdiv v_3 (2 ^ 8))))), (1, (.int .u8 (IntKind.u8.wrap v_4))), (2, (.int .u8 (IntKind.u8.wrap v_5))), (3, (.int .u8 (IntKind.u8.wrap v_6))), (4, (.int .u8 (IntKind.u8.wrap v_7)))] w_2) fun s_8 w_9 =>
  (ldS (p_1.add 4) w_9).bind fun v_10 =>
  bnd (apd prog 25 25 (.slice s_8.a s_8.len s_8.cap) (.slice v_10.a v_10.len v_10.cap) w_9) fun s_11 w_12 =>
  if ((Int.tmod ((s_11.len : Nat) : Int) 2) == 1) = true then (bnd (bldS prog 25 1 #[(0, (.int .u8 0))] w_12) fun s_13 w_14 =>
  bnd (apd prog 25 25 (.slice s_11.a s_11.len s_11.cap) (.slice s_13.a s_13.len s_13.cap) w_14) fun s_15 w_16 =>
  bnd (escrow_coded K s_15 w_16) fun r_17 w_18 =>
  some ((r_17.1, ()), w_18)) else (bnd (escrow_coded K s_11 w_12) fun r_19 w_20 =>
  some ((r_19.1, ()), w_20))
theorem escrow_share_bytes_facts : FunFacts prog 35 f35 (bodyOf f35) [(0, .agg)] [(0, 38)] := ⟨func35, by kernel_rfl, by kernel_rfl, by kernel_rfl, by kernel_rfl, by kernel_rfl⟩
theorem escrow_share_bytes_calls (K : Nat) (x : TT [(0, .agg)]) (w : World) (y : TR [.sl]) (w2 : World) (h : escrow_share_bytes K x.1 w = some (y, w2)) : Calls prog 35 (encA [(0, .agg)] x).toArray w (fun e w3 => e = .returned (resV (encR [.sl] y)) ∧ w3 = w2) :=
    mk_fun (O := tabL []) (Lp := [(0, .agg)]) (Rt := [.sl]) (S := (fun x w => escrow_share_bytes K x.1 w)) (escrow_share_bytes_Eok K) (escrow_share_bytes_Rok K) rfl escrow_share_bytes_facts (Orc.nil _ _ _) (fun _ _ => by kernel_rfl) x w y w2 h
noncomputable def escrow_share_bytes_ce (K : Nat) : CE := funE [(0, .agg)] [.sl] (fun x w => escrow_share_bytes K x.1 w)
theorem escrow_share_bytes_ok (K : Nat) : (escrow_share_bytes_ce K).Ok prog 35 := funE_ok (Rt := [.sl]) (S := (fun x w => escrow_share_bytes K x.1 w)) escrow_share_bytes_facts fun x w y w2 h => escrow_share_bytes_calls K x w y w2 h

noncomputable def escrow_share_text_E (K : Nat) : List (Nat × CE) := [(35, escrow_share_bytes_ce K), (11, escrow_Words_ce K)]
theorem escrow_share_text_Eok (K : Nat) : Env.Ok prog (tab (escrow_share_text_E K)) := (Env.cons (escrow_share_bytes_ok K) (Env.cons (escrow_Words_ok K) (Env.nil _)))
noncomputable def escrow_share_text_R (K : Nat) : List (Nat × RE) := []
theorem escrow_share_text_Rok (K : Nat) : REnv.Ok prog (tab (escrow_share_text_R K)) := (REnv.nil _)
/-- (coffer/escrow.share).text -/
noncomputable def escrow_share_text (K : Nat) (s0 : Array Value) (w : World) : Option ((ByteArray × Unit) × World) :=
  bnd (newB s0 55 w) fun p_1 w_2 =>
  (ldA 5 p_1 w_2).bind fun v_3 =>
  bnd (escrow_share_bytes K v_3 w_2) fun r_4 w_5 =>
  bnd (escrow_Words K r_4.1 w_5) fun r_6 w_7 =>
  some ((r_6.1, ()), w_7)
theorem escrow_share_text_facts : FunFacts prog 25 f25 (bodyOf f25) [(0, .agg)] [(0, 6)] := ⟨func25, by kernel_rfl, by kernel_rfl, by kernel_rfl, by kernel_rfl, by kernel_rfl⟩
theorem escrow_share_text_calls (K : Nat) (x : TT [(0, .agg)]) (w : World) (y : TR [.str]) (w2 : World) (h : escrow_share_text K x.1 w = some (y, w2)) : Calls prog 25 (encA [(0, .agg)] x).toArray w (fun e w3 => e = .returned (resV (encR [.str] y)) ∧ w3 = w2) :=
    mk_fun (O := tabL []) (Lp := [(0, .agg)]) (Rt := [.str]) (S := (fun x w => escrow_share_text K x.1 w)) (escrow_share_text_Eok K) (escrow_share_text_Rok K) rfl escrow_share_text_facts (Orc.nil _ _ _) (fun _ _ => by kernel_rfl) x w y w2 h
noncomputable def escrow_share_text_ce (K : Nat) : CE := funE [(0, .agg)] [.str] (fun x w => escrow_share_text K x.1 w)
theorem escrow_share_text_ok (K : Nat) : (escrow_share_text_ce K).Ok prog 25 := funE_ok (Rt := [.str]) (S := (fun x w => escrow_share_text K x.1 w)) escrow_share_text_facts fun x w y w2 h => escrow_share_text_calls K x w y w2 h

noncomputable def escrow_Mend_E (K : Nat) : List (Nat × CE) := [(24, escrow_mended_ce K), (25, escrow_share_text_ce K)]
theorem escrow_Mend_Eok (K : Nat) : Env.Ok prog (tab (escrow_Mend_E K)) := (Env.cons (escrow_mended_ok K) (Env.cons (escrow_share_text_ok K) (Env.nil _)))
noncomputable def escrow_Mend_R (K : Nat) : List (Nat × RE) := []
theorem escrow_Mend_Rok (K : Nat) : REnv.Ok prog (tab (escrow_Mend_R K)) := (REnv.nil _)
/-- coffer/escrow.Mend -/
noncomputable def escrow_Mend (K : Nat) (text0 : ByteArray) (w : World) : Option ((ByteArray × Int × Int × Unit) × World) :=
  bnd (escrow_mended K text0 w) fun r_1 w_2 =>
  bnd (newB z55 55 w_2) fun s_3 w_4 =>
  if (r_1.1).size = 5 then ((stA s_3 r_1.1 w_4).bind fun w_5 =>
  if (r_1.2.2.1 != 0) = true then (some ((str0, 0, r_1.2.2.1, ()), w_5)) else ((ldA 5 s_3 w_5).bind fun v_6 =>
  bnd (escrow_share_text K v_6 w_5) fun r_7 w_8 =>
  some ((r_7.1, r_1.2.1, 0, ()), w_8))) else none
theorem escrow_Mend_facts : FunFacts prog 16 f16 (bodyOf f16) [(0, .str)] [(0, 20)] := ⟨func16, by kernel_rfl, by kernel_rfl, by kernel_rfl, by kernel_rfl, by kernel_rfl⟩
theorem escrow_Mend_calls (K : Nat) (x : TT [(0, .str)]) (w : World) (y : TR [.str, .int .i64, .int .i64]) (w2 : World) (h : escrow_Mend K x.1 w = some (y, w2)) : Calls prog 16 (encA [(0, .str)] x).toArray w (fun e w3 => e = .returned (resV (encR [.str, .int .i64, .int .i64] y)) ∧ w3 = w2) :=
    mk_fun (O := tabL []) (Lp := [(0, .str)]) (Rt := [.str, .int .i64, .int .i64]) (S := (fun x w => escrow_Mend K x.1 w)) (escrow_Mend_Eok K) (escrow_Mend_Rok K) rfl escrow_Mend_facts (Orc.nil _ _ _) (fun _ _ => by kernel_rfl) x w y w2 h
noncomputable def escrow_Mend_ce (K : Nat) : CE := funE [(0, .str)] [.str, .int .i64, .int .i64] (fun x w => escrow_Mend K x.1 w)
theorem escrow_Mend_ok (K : Nat) : (escrow_Mend_ce K).Ok prog 16 := funE_ok (Rt := [.str, .int .i64, .int .i64]) (S := (fun x w => escrow_Mend K x.1 w)) escrow_Mend_facts fun x w y w2 h => escrow_Mend_calls K x w y w2 h

noncomputable def escrow_Tell_E (K : Nat) : List (Nat × CE) := [(24, escrow_mended_ce K)]
theorem escrow_Tell_Eok (K : Nat) : Env.Ok prog (tab (escrow_Tell_E K)) := (Env.cons (escrow_mended_ok K) (Env.nil _))
noncomputable def escrow_Tell_R (K : Nat) : List (Nat × RE) := []
theorem escrow_Tell_Rok (K : Nat) : REnv.Ok prog (tab (escrow_Tell_R K)) := (REnv.nil _)
/-- coffer/escrow.Tell -/
noncomputable def escrow_Tell (K : Nat) (text0 : ByteArray) (w : World) : Option (((Array Value) × Int × Unit) × World) :=
  bnd (newB z33 33 w) fun p_1 w_2 =>
  bnd (escrow_mended K text0 w_2) fun r_3 w_4 =>
  bnd (newB z55 55 w_4) fun s_5 w_6 =>
  if (r_3.1).size = 5 then ((stA s_5 r_3.1 w_6).bind fun w_7 =>
  (ldA 4 (s_5.add 0) w_7).bind fun v_8 =>
  if (v_8).size = 4 then ((stA p_1 v_8 w_7).bind fun w_9 =>
  (ldA 4 p_1 w_9).bind fun res_10 =>
  some ((res_10, r_3.2.2.1, ()), w_9)) else none) else none
theorem escrow_Tell_facts : FunFacts prog 17 f17 (bodyOf f17) [(0, .str)] [(0, 16)] := ⟨func17, by kernel_rfl, by kernel_rfl, by kernel_rfl, by kernel_rfl, by kernel_rfl⟩
theorem escrow_Tell_calls (K : Nat) (x : TT [(0, .str)]) (w : World) (y : TR [.agg, .int .i64]) (w2 : World) (h : escrow_Tell K x.1 w = some (y, w2)) : Calls prog 17 (encA [(0, .str)] x).toArray w (fun e w3 => e = .returned (resV (encR [.agg, .int .i64] y)) ∧ w3 = w2) :=
    mk_fun (O := tabL []) (Lp := [(0, .str)]) (Rt := [.agg, .int .i64]) (S := (fun x w => escrow_Tell K x.1 w)) (escrow_Tell_Eok K) (escrow_Tell_Rok K) rfl escrow_Tell_facts (Orc.nil _ _ _) (fun _ _ => by kernel_rfl) x w y w2 h
noncomputable def escrow_Tell_ce (K : Nat) : CE := funE [(0, .str)] [.agg, .int .i64] (fun x w => escrow_Tell K x.1 w)
theorem escrow_Tell_ok (K : Nat) : (escrow_Tell_ce K).Ok prog 17 := funE_ok (Rt := [.agg, .int .i64]) (S := (fun x w => escrow_Tell K x.1 w)) escrow_Tell_facts fun x w y w2 h => escrow_Tell_calls K x w y w2 h

noncomputable def law11_num_R : List (Nat × RE) := []
theorem law11_num_Rok : REnv.Ok prog (tab (law11_num_R)) := (REnv.nil _)
/-- coffer/cofferlaw11.num -/
noncomputable def law11_num (e0 : Int) : Option (Int × Unit) :=
  some (e0, ())
theorem law11_num_facts : FunFacts prog 18 f18 (bodyOf f18) [(0, .int .i64)] [(0, 4)] := ⟨func18, by kernel_rfl, by kernel_rfl, by kernel_rfl, by kernel_rfl, by kernel_rfl⟩
theorem law11_num_calls (x : TT [(0, .int .i64)]) (w : World) (y : TR [.int .i64]) (h : law11_num x.1 = some y) : Calls prog 18 (encA [(0, .int .i64)] x).toArray w (fun e w3 => e = .returned (resV (encR [.int .i64] y)) ∧ w3 = w) :=
    mk_funQ (O := tabL []) (Lp := [(0, .int .i64)]) (Rt := [.int .i64]) (S := (fun x w => law11_num x.1)) (law11_num_Rok) law11_num_facts (OrcQ.nil _ _ _) (fun _ _ => by kernel_rfl) x w y h
noncomputable def law11_num_re : RE := funR [(0, .int .i64)] [.int .i64] (fun x w => law11_num x.1)
theorem law11_num_ok : (law11_num_re).Ok prog 18 := funR_ok (Rt := [.int .i64]) (S := (fun x w => law11_num x.1)) law11_num_facts fun x w y h => law11_num_calls x w y h

noncomputable def law11_EscrowMends_E (K : Nat) : List (Nat × CE) := [(14, ref11_Mend_ce K), (15, ref11_Part_Line_ce K), (16, escrow_Mend_ce K), (17, escrow_Tell_ce K)]
theorem law11_EscrowMends_Eok (K : Nat) : Env.Ok prog (tab (law11_EscrowMends_E K)) := (Env.cons (ref11_Mend_ok K) (Env.cons (ref11_Part_Line_ok K) (Env.cons (escrow_Mend_ok K) (Env.cons (escrow_Tell_ok K) (Env.nil _)))))
noncomputable def law11_EscrowMends_R (K : Nat) : List (Nat × RE) := [(18, law11_num_re)]
theorem law11_EscrowMends_Rok (K : Nat) : REnv.Ok prog (tab (law11_EscrowMends_R K)) := (REnv.cons (law11_num_ok) (REnv.nil _))
noncomputable def law11_EscrowMends_s0 (K : Nat) (p3 : Addr) (want5 : ByteArray) (a17 : Bool) (w : World) : Option ((ByteArray × Unit) × World) :=
  if a17 = true then ((ldA 6 p3 w).bind fun v_6 =>
  bnd (ref11_Part_Line K v_6 w) fun r_7 w_8 =>
  some ((r_7.1, ()), w_8)) else (some ((want5, ()), w))
/-- coffer/cofferlaw11.EscrowMends -/
noncomputable def law11_EscrowMends (K : Nat) (text0 : ByteArray) (w : World) : Option ((Bool × Unit) × World) :=
  bnd (ref11_Mend K text0 w) fun r_1 w_2 =>
  bnd (newB z35 35 w_2) fun p_3 w_4 =>
  if (r_1.1).size = 6 then ((stA p_3 r_1.1 w_4).bind fun w_5 =>
  bnd (law11_EscrowMends_s0 K p_3 str0 (r_1.2.1 == 0) w_5) fun y_9 w_10 =>
  bnd (escrow_Mend K text0 w_10) fun r_11 w_12 =>
  bnd (escrow_Tell K text0 w_12) fun r_13 w_14 =>
  bnd (newB z33 33 w_14) fun t_15 w_16 =>
  if (r_13.1).size = 4 then ((stA t_15 r_13.1 w_16).bind fun w_17 =>
  if (r_11.1.toList == y_9.1.toList) = true then ((ldI .i64 (p_3.add 5) w_17).bind fun v_18 =>
  if (r_11.2.1 == v_18) = true then ((law11_num r_11.2.2.1).bind fun r_19 =>
  if (r_19.1 == r_1.2.1) = true then ((ldA 4 t_15 w_17).bind fun v_20 =>
  (ldA 4 (p_3.add 0) w_17).bind fun v_21 =>
  bnd (bop prog .eql 33 (.tmp 47) (.tmp 49) (.agg v_20) (.agg v_21) w_17) fun v_22 w_23 =>
  (asB v_22).bind fun v_24 =>
  if v_24 = true then ((law11_num r_13.2.1).bind fun r_25 =>
  some (((r_25.1 == r_1.2.1), ()), w_23)) else (some ((false, ()), w_23))) else (some ((false, ()), w_17))) else (some ((false, ()), w_17))) else (some ((false, ()), w_17))) else none) else none
theorem law11_EscrowMends_s0_ok (K : Nat) : StmtNOk prog [(3, .addr), (5, .str), (17, .bool)] [(5, .str)] [(5, 6), (18, 20)] (fun x w => law11_EscrowMends_s0 K x.1 x.2.1 x.2.2.1 w) (cd (bodyOf f6) [1, 1, 1, 0, 1]) :=
    mk_stmtN (O := tabL []) (root := (bodyOf f6)) (π := [1, 1, 1, 0, 1]) (Li := [(3, .addr), (5, .str), (17, .bool)]) (Lo := [(5, .str)]) (S := (fun x w => law11_EscrowMends_s0 K x.1 x.2.1 x.2.2.1 w)) (law11_EscrowMends_Eok K) (law11_EscrowMends_Rok K) rfl (Orc.nil _ _ _) (by kernel_rfl) (fun _ _ => by kernel_rfl)
noncomputable def law11_EscrowMends_s0_se (K : Nat) : SE := stmtN [(3, .addr), (5, .str), (17, .bool)] [(5, .str)] [(5, 6), (18, 20)] (fun x w => law11_EscrowMends_s0 K x.1 x.2.1 x.2.2.1 w)
theorem law11_EscrowMends_s0_se_ok (K : Nat) (R : Rg) (h : subRB [(5, 6), (18, 20)] R = true) : (law11_EscrowMends_s0_se K).Ok prog R (cd (bodyOf f6) [1, 1, 1, 0, 1]) := stmtN_ok (Li := [(3, .addr), (5, .str), (17, .bool)]) (Lo := [(5, .str)]) (S := (fun x w => law11_EscrowMends_s0 K x.1 x.2.1 x.2.2.1 w)) (law11_EscrowMends_s0_ok K) (subR_of h)
theorem law11_EscrowMends_facts : FunFacts prog 6 f6 (bodyOf f6) [(0, .str)] [(0, 58)] := ⟨func6, by kernel_rfl, by kernel_rfl, by kernel_rfl, by kernel_rfl, by kernel_rfl⟩
theorem law11_EscrowMends_calls (K : Nat) (x : TT [(0, .str)]) (w : World) (y : TR [.bool]) (w2 : World) (h : law11_EscrowMends K x.1 w = some (y, w2)) : Calls prog 6 (encA [(0, .str)] x).toArray w (fun e w3 => e = .returned (resV (encR [.bool] y)) ∧ w3 = w2) :=
    mk_fun (O := tabL [([1, 1, 1, 0, 1], law11_EscrowMends_s0_se K)]) (Lp := [(0, .str)]) (Rt := [.bool]) (S := (fun x w => law11_EscrowMends K x.1 w)) (law11_EscrowMends_Eok K) (law11_EscrowMends_Rok K) rfl law11_EscrowMends_facts (Orc.cons (by kernel_rfl) (law11_EscrowMends_s0_se_ok K [(0, 58)] (by kernel_rfl)) (Orc.nil _ _ _)) (fun _ _ => by kernel_rfl) x w y w2 h
noncomputable def law11_EscrowMends_ce (K : Nat) : CE := funE [(0, .str)] [.bool] (fun x w => law11_EscrowMends K x.1 w)
theorem law11_EscrowMends_ok (K : Nat) : (law11_EscrowMends_ce K).Ok prog 6 := funE_ok (Rt := [.bool]) (S := (fun x w => law11_EscrowMends K x.1 w)) law11_EscrowMends_facts fun x w y w2 h => law11_EscrowMends_calls K x w y w2 h

end Go.Sh
