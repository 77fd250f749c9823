/- What functions of the program do, as Lean functions; that the machine does just that. Printed by shal.py, a program of this claim's writer. -/
import Derived.Test.YtgmdbhckccmhjaaDoorSh6
set_option maxRecDepth 100000
set_option linter.unusedVariables false
namespace Go.Sh
open Go.Fw Go.Proofs.Tryd

noncomputable def law01_DigestKeys_E (K : Nat) : List (Nat × CE) := [(20, digest_Block_ce), (31, digest_Code_ce K), (24, digest_Sum_ce K), (41, digest_NewMac_ce K), (27, book_SameBytes_ce K), (43, digest_Mac_Write_ce K), (50, digest_Mac_Reset_ce), (45, digest_Mac_Sum_ce K)]
theorem law01_DigestKeys_Eok (K : Nat) : Env.Ok prog (tab (law01_DigestKeys_E K)) := (Env.cons (digest_Block_ok) (Env.cons (digest_Code_ok K) (Env.cons (digest_Sum_ok K) (Env.cons (digest_NewMac_ok K) (Env.cons (book_SameBytes_ok K) (Env.cons (digest_Mac_Write_ok K) (Env.cons (digest_Mac_Reset_ok) (Env.cons (digest_Mac_Sum_ok K) (Env.nil _)))))))))
noncomputable def law01_DigestKeys_R (K : Nat) : List (Nat × RE) := [(49, law01_known_re), (26, law01_num_re)]
theorem law01_DigestKeys_Rok (K : Nat) : REnv.Ok prog (tab (law01_DigestKeys_R K)) := (REnv.cons (law01_known_ok) (REnv.cons (law01_num_ok) (REnv.nil _)))
noncomputable def law01_DigestKeys_s0 (K : Nat) (hash3 : Int) (key4 : Sl) (b5 : Sl) (w : World) : Option ((Bool × Unit) × World) :=
  (law01_known hash3).bind fun r_7 =>
  if (!r_7.1) = true then (some ((true, ()), w)) else (if (decide (((b5.len : Nat) : Int) > 65536)) = true then (some ((true, ()), w)) else (some (((decide (((key4.len : Nat) : Int) > 65536)), ()), w)))
noncomputable def law01_DigestKeys_s1 (K : Nat) (hash3 : Int) (block7 : Int) (code8 : Sl) (e9 : Int) (w : World) : Option ((Bool × Unit) × World) :=
  (law01_num e9).bind fun r_16 =>
  if (r_16.1 != 0) = true then (some ((true, ()), w)) else (if (((code8.len : Nat) : Int) != (IntKind.i64.wrap (Int.tdiv hash3 8))) = true then (some ((true, ()), w)) else (if (block7 != 64) = true then (some (((block7 != 128), ()), w)) else (some ((false, ()), w))))
noncomputable def law01_DigestKeys_s4 (K : Nat) (zeros6 : Int) (block7 : Int) (other10 : Sl) (i11 : Int) (w : World) : Option ((Bool × Unit) × World) :=
  if (decide (i11 < zeros6)) = true then (some (((decide (((other10.len : Nat) : Int) < block7)), ()), w)) else (some ((false, ()), w))
noncomputable def law01_DigestKeys_l3_b (K : Nat) (rec : Int → Int → Int → Int → Sl → Int → World → Option ((Sl × Unit) × World)) (hash3 : Int) (zeros6 : Int) (block7 : Int) (e9 : Int) (other10 : Sl) (i11 : Int) (w : World) : Option ((Sl × Unit) × World) :=
  bnd (law01_DigestKeys_s4 K zeros6 block7 other10 i11 w) fun y_25 w_26 =>
  if y_25.1 = true then (bnd (bldS prog 25 1 #[(0, (.int .u8 0))] w_26) fun s_27 w_28 =>
  bnd (apd prog 25 25 (.slice other10.a other10.len other10.cap) (.slice s_27.a s_27.len s_27.cap) w_28) fun s_29 w_30 =>
  rec hash3 zeros6 block7 e9 s_29 (IntKind.i64.wrap (i11 + 1)) w_30) else (some ((other10, ()), w_26))
noncomputable def law01_DigestKeys_l3 (K : Nat) (n : Nat) : Int → Int → Int → Int → Sl → Int → World → Option ((Sl × Unit) × World) := iter (fun _ _ _ _ _ _ _ => none) (law01_DigestKeys_l3_b K) n
noncomputable def law01_DigestKeys_s2 (K : Nat) (hash3 : Int) (key4 : Sl) (zeros6 : Int) (block7 : Int) (e9 : Int) (other10 : Sl) (a68 : Bool) (w : World) : Option ((Int × Sl × Unit) × World) :=
  if a68 = true then (bnd (bldS prog 24 1 #[(0, (.slice key4.a key4.len key4.cap))] w) fun s_19 w_20 =>
  bnd (digest_Sum K hash3 s_19 w_20) fun r_21 w_22 =>
  some ((r_21.2.1, r_21.1, ()), w_22)) else (bnd (apd prog 25 25 (.slice other10.a other10.len other10.cap) (.slice key4.a key4.len key4.cap) w) fun s_23 w_24 =>
  bnd (law01_DigestKeys_l3 K K hash3 zeros6 block7 e9 s_23 0 w_24) fun y_31 w_32 =>
  some ((e9, y_31.1, ()), w_32))
noncomputable def law01_DigestKeys_s5 (K : Nat) (code8 : Sl) (e9 : Int) (again12 : Sl) (f13 : Int) (m14 : Option Addr) (g15 : Int) (w : World) : Option ((Bool × Unit) × World) :=
  (law01_num e9).bind fun r_41 =>
  if (r_41.1 != 0) = true then (some ((true, ()), w)) else ((law01_num f13).bind fun r_42 =>
  if (r_42.1 != 0) = true then (some ((true, ()), w)) else ((law01_num g15).bind fun r_43 =>
  if (r_43.1 != 0) = true then (some ((true, ()), w)) else (if m14.isNone = true then (some ((true, ()), w)) else (bnd (book_SameBytes K code8 again12 w) fun r_44 w_45 =>
  some (((!r_44.1), ()), w_45)))))
noncomputable def law01_DigestKeys_s6 (K : Nat) (b5 : Sl) (m14 : Option Addr) (w : World) : Option ((Bool × Unit) × World) :=
  bnd (bldS prog 25 3 #[(0, (.int .u8 1)), (1, (.int .u8 2)), (2, (.int .u8 3))] w) fun s_48 w_49 =>
  bnd (bldS prog 24 1 #[(0, (.slice s_48.a s_48.len s_48.cap))] w_49) fun s_50 w_51 =>
  bnd (digest_Mac_Write K m14 s_50 w_51) fun r_52 w_53 =>
  (law01_num r_52.1).bind fun r_54 =>
  if (r_54.1 != 0) = true then (some ((true, ()), w_53)) else (bnd (digest_Mac_Reset m14 w_53) fun r_55 w_56 =>
  (law01_num r_55.1).bind fun r_57 =>
  if (r_57.1 != 0) = true then (some ((true, ()), w_56)) else (bnd (bldS prog 24 1 #[(0, (.slice b5.a b5.len b5.cap))] w_56) fun s_58 w_59 =>
  bnd (digest_Mac_Write K m14 s_58 w_59) fun r_60 w_61 =>
  (law01_num r_60.1).bind fun r_62 =>
  some (((r_62.1 != 0), ()), w_61)))
/-- coffer/cofferlaw01.DigestKeys -/
noncomputable def law01_DigestKeys (K : Nat) (c0 : Array Value) (w : World) : Option ((Bool × Unit) × World) :=
  bnd (newB c0 64 w) fun p_1 w_2 =>
  (ldI .i64 (p_1.add 0) w_2).bind fun v_3 =>
  (ldS (p_1.add 1) w_2).bind fun v_4 =>
  (ldS (p_1.add 2) w_2).bind fun v_5 =>
  (ldI .i64 (p_1.add 4) w_2).bind fun v_6 =>
  bnd (law01_DigestKeys_s0 K v_3 v_4 v_5 w_2) fun y_8 w_9 =>
  if y_8.1 = true then (some ((true, ()), w_9)) else (bnd (digest_Block v_3 w_9) fun r_10 w_11 =>
  bnd (bldS prog 24 1 #[(0, (.slice v_5.a v_5.len v_5.cap))] w_11) fun s_12 w_13 =>
  bnd (digest_Code K v_3 v_4 s_12 w_13) fun r_14 w_15 =>
  bnd (law01_DigestKeys_s1 K v_3 r_10.1 r_14.1 r_14.2.1 w_15) fun y_17 w_18 =>
  if y_17.1 = true then (some ((false, ()), w_18)) else (bnd (law01_DigestKeys_s2 K v_3 v_4 v_6 r_10.1 r_14.2.1 ⟨none, 0, 0⟩ (decide (((v_4.len : Nat) : Int) > r_10.1)) w_18) fun y_33 w_34 =>
  bnd (bldS prog 24 1 #[(0, (.slice v_5.a v_5.len v_5.cap))] w_34) fun s_35 w_36 =>
  bnd (digest_Code K v_3 y_33.2.1 s_35 w_36) fun r_37 w_38 =>
  bnd (digest_NewMac K v_3 y_33.2.1 w_38) fun r_39 w_40 =>
  bnd (law01_DigestKeys_s5 K r_14.1 y_33.1 r_37.1 r_37.2.1 r_39.1 r_39.2.1 w_40) fun y_46 w_47 =>
  if y_46.1 = true then (some ((false, ()), w_47)) else (bnd (law01_DigestKeys_s6 K v_5 r_39.1 w_47) fun y_63 w_64 =>
  if y_63.1 = true then (some ((false, ()), w_64)) else (bnd (digest_Mac_Sum K r_39.1 w_64) fun r_65 w_66 =>
  bnd (book_SameBytes K r_65.1 r_14.1 w_66) fun r_67 w_68 =>
  some ((r_67.1, ()), w_68)))))
theorem law01_DigestKeys_s0_ok (K : Nat) : StmtNOk prog [(3, .int .i64), (4, .sl), (5, .sl)] [(36, .bool)] [(24, 37)] (fun x w => law01_DigestKeys_s0 K x.1 x.2.1 x.2.2.1 w) (cd (bodyOf f10) [1, 1, 1, 1, 1, 0, 0]) :=
    mk_stmtN (O := tabL []) (root := (bodyOf f10)) (π := [1, 1, 1, 1, 1, 0, 0]) (Li := [(3, .int .i64), (4, .sl), (5, .sl)]) (Lo := [(36, .bool)]) (S := (fun x w => law01_DigestKeys_s0 K x.1 x.2.1 x.2.2.1 w)) (law01_DigestKeys_Eok K) (law01_DigestKeys_Rok K) rfl (Orc.nil _ _ _) (by kernel_rfl) (fun _ _ => by kernel_rfl)
noncomputable def law01_DigestKeys_s0_se (K : Nat) : SE := stmtN [(3, .int .i64), (4, .sl), (5, .sl)] [(36, .bool)] [(24, 37)] (fun x w => law01_DigestKeys_s0 K x.1 x.2.1 x.2.2.1 w)
theorem law01_DigestKeys_s0_se_ok (K : Nat) (R : Rg) (h : subRB [(24, 37)] R = true) : (law01_DigestKeys_s0_se K).Ok prog R (cd (bodyOf f10) [1, 1, 1, 1, 1, 0, 0]) := stmtN_ok (Li := [(3, .int .i64), (4, .sl), (5, .sl)]) (Lo := [(36, .bool)]) (S := (fun x w => law01_DigestKeys_s0 K x.1 x.2.1 x.2.2.1 w)) (law01_DigestKeys_s0_ok K) (subR_of h)
theorem law01_DigestKeys_s1_ok (K : Nat) : StmtNOk prog [(3, .int .i64), (7, .int .i64), (8, .sl), (9, .int .i64)] [(64, .bool)] [(47, 65)] (fun x w => law01_DigestKeys_s1 K x.1 x.2.1 x.2.2.1 x.2.2.2.1 w) (cd (bodyOf f10) [1, 1, 1, 1, 1, 1, 1, 1, 0, 0]) :=
    mk_stmtN (O := tabL []) (root := (bodyOf f10)) (π := [1, 1, 1, 1, 1, 1, 1, 1, 0, 0]) (Li := [(3, .int .i64), (7, .int .i64), (8, .sl), (9, .int .i64)]) (Lo := [(64, .bool)]) (S := (fun x w => law01_DigestKeys_s1 K x.1 x.2.1 x.2.2.1 x.2.2.2.1 w)) (law01_DigestKeys_Eok K) (law01_DigestKeys_Rok K) rfl (Orc.nil _ _ _) (by kernel_rfl) (fun _ _ => by kernel_rfl)
noncomputable def law01_DigestKeys_s1_se (K : Nat) : SE := stmtN [(3, .int .i64), (7, .int .i64), (8, .sl), (9, .int .i64)] [(64, .bool)] [(47, 65)] (fun x w => law01_DigestKeys_s1 K x.1 x.2.1 x.2.2.1 x.2.2.2.1 w)
theorem law01_DigestKeys_s1_se_ok (K : Nat) (R : Rg) (h : subRB [(47, 65)] R = true) : (law01_DigestKeys_s1_se K).Ok prog R (cd (bodyOf f10) [1, 1, 1, 1, 1, 1, 1, 1, 0, 0]) := stmtN_ok (Li := [(3, .int .i64), (7, .int .i64), (8, .sl), (9, .int .i64)]) (Lo := [(64, .bool)]) (S := (fun x w => law01_DigestKeys_s1 K x.1 x.2.1 x.2.2.1 x.2.2.2.1 w)) (law01_DigestKeys_s1_ok K) (subR_of h)
theorem law01_DigestKeys_s4_ok (K : Nat) : StmtNOk prog [(6, .int .i64), (7, .int .i64), (10, .sl), (11, .int .i64)] [(87, .bool)] [(79, 88)] (fun x w => law01_DigestKeys_s4 K x.1 x.2.1 x.2.2.1 x.2.2.2.1 w) (cd (bodyOf f10) [1, 1, 1, 1, 1, 1, 1, 1, 1, 1, 0, 1, 1, 1, 1, 0, 0, 0, 0]) :=
    mk_stmtN (O := tabL []) (root := (bodyOf f10)) (π := [1, 1, 1, 1, 1, 1, 1, 1, 1, 1, 0, 1, 1, 1, 1, 0, 0, 0, 0]) (Li := [(6, .int .i64), (7, .int .i64), (10, .sl), (11, .int .i64)]) (Lo := [(87, .bool)]) (S := (fun x w => law01_DigestKeys_s4 K x.1 x.2.1 x.2.2.1 x.2.2.2.1 w)) (law01_DigestKeys_Eok K) (law01_DigestKeys_Rok K) rfl (Orc.nil _ _ _) (by kernel_rfl) (fun _ _ => by kernel_rfl)
noncomputable def law01_DigestKeys_s4_se (K : Nat) : SE := stmtN [(6, .int .i64), (7, .int .i64), (10, .sl), (11, .int .i64)] [(87, .bool)] [(79, 88)] (fun x w => law01_DigestKeys_s4 K x.1 x.2.1 x.2.2.1 x.2.2.2.1 w)
theorem law01_DigestKeys_s4_se_ok (K : Nat) (R : Rg) (h : subRB [(79, 88)] R = true) : (law01_DigestKeys_s4_se K).Ok prog R (cd (bodyOf f10) [1, 1, 1, 1, 1, 1, 1, 1, 1, 1, 0, 1, 1, 1, 1, 0, 0, 0, 0]) := stmtN_ok (Li := [(6, .int .i64), (7, .int .i64), (10, .sl), (11, .int .i64)]) (Lo := [(87, .bool)]) (S := (fun x w => law01_DigestKeys_s4 K x.1 x.2.1 x.2.2.1 x.2.2.2.1 w)) (law01_DigestKeys_s4_ok K) (subR_of h)
theorem law01_DigestKeys_l3_ok (K : Nat) (n : Nat) : StmtNOk prog [(3, .int .i64), (6, .int .i64), (7, .int .i64), (9, .int .i64), (10, .sl), (11, .int .i64)] [(10, .sl)] [(10, 12), (79, 93)] ((fun n x w => law01_DigestKeys_l3 K n x.1 x.2.1 x.2.2.1 x.2.2.2.1 x.2.2.2.2.1 x.2.2.2.2.2.1 w) n) (.block 0 (.loop (cd (bodyOf f10) [1, 1, 1, 1, 1, 1, 1, 1, 1, 1, 0, 1, 1, 1, 1, 0, 0]))) :=
    mk_loopN (O := tabL [([1, 1, 1, 1, 1, 1, 1, 1, 1, 1, 0, 1, 1, 1, 1, 0, 0, 0, 0], law01_DigestKeys_s4_se K)]) (root := (bodyOf f10)) (π := [1, 1, 1, 1, 1, 1, 1, 1, 1, 1, 0, 1, 1, 1, 1, 0, 0]) (id := 0) (Li := [(3, .int .i64), (6, .int .i64), (7, .int .i64), (9, .int .i64), (10, .sl), (11, .int .i64)]) (Lo := [(10, .sl)]) (S := (fun n x w => law01_DigestKeys_l3 K n x.1 x.2.1 x.2.2.1 x.2.2.2.1 x.2.2.2.2.1 x.2.2.2.2.2.1 w)) (body := cd (bodyOf f10) [1, 1, 1, 1, 1, 1, 1, 1, 1, 1, 0, 1, 1, 1, 1, 0, 0]) (law01_DigestKeys_Eok K) (law01_DigestKeys_Rok K) rfl (Orc.cons (by kernel_rfl) (law01_DigestKeys_s4_se_ok K [(10, 12), (79, 93)] (by kernel_rfl)) (Orc.nil _ _ _)) (by kernel_rfl) (fun _ _ => by kernel_rfl) (fun _ _ _ => by kernel_rfl) n
noncomputable def law01_DigestKeys_l3_se (K : Nat) : SE := stmtN [(3, .int .i64), (6, .int .i64), (7, .int .i64), (9, .int .i64), (10, .sl), (11, .int .i64)] [(10, .sl)] [(10, 12), (79, 93)] (fun x w => law01_DigestKeys_l3 K K x.1 x.2.1 x.2.2.1 x.2.2.2.1 x.2.2.2.2.1 x.2.2.2.2.2.1 w)
theorem law01_DigestKeys_l3_se_ok (K : Nat) (R : Rg) (h : subRB [(10, 12), (79, 93)] R = true) : (law01_DigestKeys_l3_se K).Ok prog R (.block 0 (.loop (cd (bodyOf f10) [1, 1, 1, 1, 1, 1, 1, 1, 1, 1, 0, 1, 1, 1, 1, 0, 0]))) := stmtN_ok (Li := [(3, .int .i64), (6, .int .i64), (7, .int .i64), (9, .int .i64), (10, .sl), (11, .int .i64)]) (Lo := [(10, .sl)]) (S := (fun x w => law01_DigestKeys_l3 K K x.1 x.2.1 x.2.2.1 x.2.2.2.1 x.2.2.2.2.1 x.2.2.2.2.2.1 w)) (law01_DigestKeys_l3_ok K K) (subR_of h)
theorem law01_DigestKeys_s2_ok (K : Nat) : StmtNOk prog [(3, .int .i64), (4, .sl), (6, .int .i64), (7, .int .i64), (9, .int .i64), (10, .sl), (68, .bool)] [(9, .int .i64), (10, .sl)] [(9, 12), (69, 93)] (fun x w => law01_DigestKeys_s2 K x.1 x.2.1 x.2.2.1 x.2.2.2.1 x.2.2.2.2.1 x.2.2.2.2.2.1 x.2.2.2.2.2.2.1 w) (cd (bodyOf f10) [1, 1, 1, 1, 1, 1, 1, 1, 1, 1, 0, 1]) :=
    mk_stmtN (O := tabL [([1, 1, 1, 1, 1, 1, 1, 1, 1, 1, 0, 1, 1, 1, 1], law01_DigestKeys_l3_se K), ([1, 1, 1, 1, 1, 1, 1, 1, 1, 1, 0, 1, 1, 1, 1, 0, 0, 0, 0], law01_DigestKeys_s4_se K)]) (root := (bodyOf f10)) (π := [1, 1, 1, 1, 1, 1, 1, 1, 1, 1, 0, 1]) (Li := [(3, .int .i64), (4, .sl), (6, .int .i64), (7, .int .i64), (9, .int .i64), (10, .sl), (68, .bool)]) (Lo := [(9, .int .i64), (10, .sl)]) (S := (fun x w => law01_DigestKeys_s2 K x.1 x.2.1 x.2.2.1 x.2.2.2.1 x.2.2.2.2.1 x.2.2.2.2.2.1 x.2.2.2.2.2.2.1 w)) (law01_DigestKeys_Eok K) (law01_DigestKeys_Rok K) rfl (Orc.cons (by kernel_rfl) (law01_DigestKeys_l3_se_ok K [(9, 12), (69, 93)] (by kernel_rfl)) (Orc.cons (by kernel_rfl) (law01_DigestKeys_s4_se_ok K [(9, 12), (69, 93)] (by kernel_rfl)) (Orc.nil _ _ _))) (by kernel_rfl) (fun _ _ => by kernel_rfl)
noncomputable def law01_DigestKeys_s2_se (K : Nat) : SE := stmtN [(3, .int .i64), (4, .sl), (6, .int .i64), (7, .int .i64), (9, .int .i64), (10, .sl), (68, .bool)] [(9, .int .i64), (10, .sl)] [(9, 12), (69, 93)] (fun x w => law01_DigestKeys_s2 K x.1 x.2.1 x.2.2.1 x.2.2.2.1 x.2.2.2.2.1 x.2.2.2.2.2.1 x.2.2.2.2.2.2.1 w)
theorem law01_DigestKeys_s2_se_ok (K : Nat) (R : Rg) (h : subRB [(9, 12), (69, 93)] R = true) : (law01_DigestKeys_s2_se K).Ok prog R (cd (bodyOf f10) [1, 1, 1, 1, 1, 1, 1, 1, 1, 1, 0, 1]) := stmtN_ok (Li := [(3, .int .i64), (4, .sl), (6, .int .i64), (7, .int .i64), (9, .int .i64), (10, .sl), (68, .bool)]) (Lo := [(9, .int .i64), (10, .sl)]) (S := (fun x w => law01_DigestKeys_s2 K x.1 x.2.1 x.2.2.1 x.2.2.2.1 x.2.2.2.2.1 x.2.2.2.2.2.1 x.2.2.2.2.2.2.1 w)) (law01_DigestKeys_s2_ok K) (subR_of h)
theorem law01_DigestKeys_s5_ok (K : Nat) : StmtNOk prog [(8, .sl), (9, .int .i64), (12, .sl), (13, .int .i64), (14, .ptr), (15, .int .i64)] [(129, .bool)] [(107, 130)] (fun x w => law01_DigestKeys_s5 K x.1 x.2.1 x.2.2.1 x.2.2.2.1 x.2.2.2.2.1 x.2.2.2.2.2.1 w) (cd (bodyOf f10) [1, 1, 1, 1, 1, 1, 1, 1, 1, 1, 1, 1, 1, 0, 0]) :=
    mk_stmtN (O := tabL []) (root := (bodyOf f10)) (π := [1, 1, 1, 1, 1, 1, 1, 1, 1, 1, 1, 1, 1, 0, 0]) (Li := [(8, .sl), (9, .int .i64), (12, .sl), (13, .int .i64), (14, .ptr), (15, .int .i64)]) (Lo := [(129, .bool)]) (S := (fun x w => law01_DigestKeys_s5 K x.1 x.2.1 x.2.2.1 x.2.2.2.1 x.2.2.2.2.1 x.2.2.2.2.2.1 w)) (law01_DigestKeys_Eok K) (law01_DigestKeys_Rok K) rfl (Orc.nil _ _ _) (by kernel_rfl) (fun _ _ => by kernel_rfl)
noncomputable def law01_DigestKeys_s5_se (K : Nat) : SE := stmtN [(8, .sl), (9, .int .i64), (12, .sl), (13, .int .i64), (14, .ptr), (15, .int .i64)] [(129, .bool)] [(107, 130)] (fun x w => law01_DigestKeys_s5 K x.1 x.2.1 x.2.2.1 x.2.2.2.1 x.2.2.2.2.1 x.2.2.2.2.2.1 w)
theorem law01_DigestKeys_s5_se_ok (K : Nat) (R : Rg) (h : subRB [(107, 130)] R = true) : (law01_DigestKeys_s5_se K).Ok prog R (cd (bodyOf f10) [1, 1, 1, 1, 1, 1, 1, 1, 1, 1, 1, 1, 1, 0, 0]) := stmtN_ok (Li := [(8, .sl), (9, .int .i64), (12, .sl), (13, .int .i64), (14, .ptr), (15, .int .i64)]) (Lo := [(129, .bool)]) (S := (fun x w => law01_DigestKeys_s5 K x.1 x.2.1 x.2.2.1 x.2.2.2.1 x.2.2.2.2.1 x.2.2.2.2.2.1 w)) (law01_DigestKeys_s5_ok K) (subR_of h)
theorem law01_DigestKeys_s6_ok (K : Nat) : StmtNOk prog [(5, .sl), (14, .ptr)] [(149, .bool)] [(130, 150)] (fun x w => law01_DigestKeys_s6 K x.1 x.2.1 w) (cd (bodyOf f10) [1, 1, 1, 1, 1, 1, 1, 1, 1, 1, 1, 1, 1, 1, 0, 0]) :=
    mk_stmtN (O := tabL []) (root := (bodyOf f10)) (π := [1, 1, 1, 1, 1, 1, 1, 1, 1, 1, 1, 1, 1, 1, 0, 0]) (Li := [(5, .sl), (14, .ptr)]) (Lo := [(149, .bool)]) (S := (fun x w => law01_DigestKeys_s6 K x.1 x.2.1 w)) (law01_DigestKeys_Eok K) (law01_DigestKeys_Rok K) rfl (Orc.nil _ _ _) (by kernel_rfl) (fun _ _ => by kernel_rfl)
noncomputable def law01_DigestKeys_s6_se (K : Nat) : SE := stmtN [(5, .sl), (14, .ptr)] [(149, .bool)] [(130, 150)] (fun x w => law01_DigestKeys_s6 K x.1 x.2.1 w)
theorem law01_DigestKeys_s6_se_ok (K : Nat) (R : Rg) (h : subRB [(130, 150)] R = true) : (law01_DigestKeys_s6_se K).Ok prog R (cd (bodyOf f10) [1, 1, 1, 1, 1, 1, 1, 1, 1, 1, 1, 1, 1, 1, 0, 0]) := stmtN_ok (Li := [(5, .sl), (14, .ptr)]) (Lo := [(149, .bool)]) (S := (fun x w => law01_DigestKeys_s6 K x.1 x.2.1 w)) (law01_DigestKeys_s6_ok K) (subR_of h)
theorem law01_DigestKeys_facts : FunFacts prog 10 f10 (bodyOf f10) [(0, .agg)] [(0, 154)] := ⟨func10, by kernel_rfl, by kernel_rfl, by kernel_rfl, by kernel_rfl, by kernel_rfl⟩
theorem law01_DigestKeys_calls (K : Nat) (x : TT [(0, .agg)]) (w : World) (y : TR [.bool]) (w2 : World) (h : law01_DigestKeys K x.1 w = some (y, w2)) : Calls prog 10 (encA [(0, .agg)] x).toArray w (fun e w3 => e = .returned (resV (encR [.bool] y)) ∧ w3 = w2) :=
    mk_fun (O := tabL [([1, 1, 1, 1, 1, 0, 0], law01_DigestKeys_s0_se K), ([1, 1, 1, 1, 1, 1, 1, 1, 0, 0], law01_DigestKeys_s1_se K), ([1, 1, 1, 1, 1, 1, 1, 1, 1, 1, 0, 1], law01_DigestKeys_s2_se K), ([1, 1, 1, 1, 1, 1, 1, 1, 1, 1, 0, 1, 1, 1, 1], law01_DigestKeys_l3_se K), ([1, 1, 1, 1, 1, 1, 1, 1, 1, 1, 0, 1, 1, 1, 1, 0, 0, 0, 0], law01_DigestKeys_s4_se K), ([1, 1, 1, 1, 1, 1, 1, 1, 1, 1, 1, 1, 1, 0, 0], law01_DigestKeys_s5_se K), ([1, 1, 1, 1, 1, 1, 1, 1, 1, 1, 1, 1, 1, 1, 0, 0], law01_DigestKeys_s6_se K)]) (Lp := [(0, .agg)]) (Rt := [.bool]) (S := (fun x w => law01_DigestKeys K x.1 w)) (law01_DigestKeys_Eok K) (law01_DigestKeys_Rok K) rfl law01_DigestKeys_facts (Orc.cons (by kernel_rfl) (law01_DigestKeys_s0_se_ok K [(0, 154)] (by kernel_rfl)) (Orc.cons (by kernel_rfl) (law01_DigestKeys_s1_se_ok K [(0, 154)] (by kernel_rfl)) (Orc.cons (by kernel_rfl) (law01_DigestKeys_s2_se_ok K [(0, 154)] (by kernel_rfl)) (Orc.cons (by kernel_rfl) (law01_DigestKeys_l3_se_ok K [(0, 154)] (by kernel_rfl)) (Orc.cons (by kernel_rfl) (law01_DigestKeys_s4_se_ok K [(0, 154)] (by kernel_rfl)) (Orc.cons (by kernel_rfl) (law01_DigestKeys_s5_se_ok K [(0, 154)] (by kernel_rfl)) (Orc.cons (by kernel_rfl) (law01_DigestKeys_s6_se_ok K [(0, 154)] (by kernel_rfl)) (Orc.nil _ _ _)))))))) (fun _ _ => by kernel_rfl) x w y w2 h
noncomputable def law01_DigestKeys_ce (K : Nat) : CE := funE [(0, .agg)] [.bool] (fun x w => law01_DigestKeys K x.1 w)
theorem law01_DigestKeys_ok (K : Nat) : (law01_DigestKeys_ce K).Ok prog 10 := funE_ok (Rt := [.bool]) (S := (fun x w => law01_DigestKeys K x.1 w)) law01_DigestKeys_facts fun x w y w2 h => law01_DigestKeys_calls K x w y w2 h

noncomputable def digest_Stream_Copy_E : List (Nat × CE) := []
theorem digest_Stream_Copy_Eok : Env.Ok prog (tab (digest_Stream_Copy_E)) := (Env.nil _)
noncomputable def digest_Stream_Copy_R : List (Nat × RE) := []
theorem digest_Stream_Copy_Rok : REnv.Ok prog (tab (digest_Stream_Copy_R)) := (REnv.nil _)
/-- (*coffer/digest.Stream).Copy -/
noncomputable def digest_Stream_Copy (s0 : Option Addr) (w : World) : Option (((Option Addr) × Unit) × World) :=
  if s0.isNone = true then (some ((none, ()), w)) else ((s0).bind fun p_1 =>
  (ldA 142 p_1 w).bind fun v_2 =>
  bnd (newB z99 99 w) fun c_3 w_4 =>
  if (v_2).size = 142 then ((stA c_3 v_2 w_4).bind fun w_5 =>
  some (((some c_3), ()), w_5)) else none)
theorem digest_Stream_Copy_facts : FunFacts prog 51 f51 (bodyOf f51) [(0, .ptr)] [(0, 9)] := ⟨func51, by kernel_rfl, by kernel_rfl, by kernel_rfl, by kernel_rfl, by kernel_rfl⟩
theorem digest_Stream_Copy_calls (x : TT [(0, .ptr)]) (w : World) (y : TR [.ptr]) (w2 : World) (h : digest_Stream_Copy x.1 w = some (y, w2)) : Calls prog 51 (encA [(0, .ptr)] x).toArray w (fun e w3 => e = .returned (resV (encR [.ptr] y)) ∧ w3 = w2) :=
    mk_fun (O := tabL []) (Lp := [(0, .ptr)]) (Rt := [.ptr]) (S := (fun x w => digest_Stream_Copy x.1 w)) (digest_Stream_Copy_Eok) (digest_Stream_Copy_Rok) rfl digest_Stream_Copy_facts (Orc.nil _ _ _) (fun _ _ => by kernel_rfl) x w y w2 h
noncomputable def digest_Stream_Copy_ce : CE := funE [(0, .ptr)] [.ptr] (fun x w => digest_Stream_Copy x.1 w)
theorem digest_Stream_Copy_ok : (digest_Stream_Copy_ce).Ok prog 51 := funE_ok (Rt := [.ptr]) (S := (fun x w => digest_Stream_Copy x.1 w)) digest_Stream_Copy_facts fun x w y w2 h => digest_Stream_Copy_calls x w y w2 h

noncomputable def digest_Mac_Copy_E : List (Nat × CE) := []
theorem digest_Mac_Copy_Eok : Env.Ok prog (tab (digest_Mac_Copy_E)) := (Env.nil _)
noncomputable def digest_Mac_Copy_R : List (Nat × RE) := []
theorem digest_Mac_Copy_Rok : REnv.Ok prog (tab (digest_Mac_Copy_R)) := (REnv.nil _)
/-- (*coffer/digest.Mac).Copy -/
noncomputable def digest_Mac_Copy (m0 : Option Addr) (w : World) : Option (((Option Addr) × Unit) × World) :=
  if m0.isNone = true then (some ((none, ()), w)) else ((m0).bind fun p_1 =>
  (ldA 568 p_1 w).bind fun v_2 =>
  bnd (newB z101 101 w) fun c_3 w_4 =>
  if (v_2).size = 568 then ((stA c_3 v_2 w_4).bind fun w_5 =>
  some (((some c_3), ()), w_5)) else none)
theorem digest_Mac_Copy_facts : FunFacts prog 52 f52 (bodyOf f52) [(0, .ptr)] [(0, 9)] := ⟨func52, by kernel_rfl, by kernel_rfl, by kernel_rfl, by kernel_rfl, by kernel_rfl⟩
theorem digest_Mac_Copy_calls (x : TT [(0, .ptr)]) (w : World) (y : TR [.ptr]) (w2 : World) (h : digest_Mac_Copy x.1 w = some (y, w2)) : Calls prog 52 (encA [(0, .ptr)] x).toArray w (fun e w3 => e = .returned (resV (encR [.ptr] y)) ∧ w3 = w2) :=
    mk_fun (O := tabL []) (Lp := [(0, .ptr)]) (Rt := [.ptr]) (S := (fun x w => digest_Mac_Copy x.1 w)) (digest_Mac_Copy_Eok) (digest_Mac_Copy_Rok) rfl digest_Mac_Copy_facts (Orc.nil _ _ _) (fun _ _ => by kernel_rfl) x w y w2 h
noncomputable def digest_Mac_Copy_ce : CE := funE [(0, .ptr)] [.ptr] (fun x w => digest_Mac_Copy x.1 w)
theorem digest_Mac_Copy_ok : (digest_Mac_Copy_ce).Ok prog 52 := funE_ok (Rt := [.ptr]) (S := (fun x w => digest_Mac_Copy x.1 w)) digest_Mac_Copy_facts fun x w y w2 h => digest_Mac_Copy_calls x w y w2 h

noncomputable def law01_DigestCuts_E (K : Nat) : List (Nat × CE) := [(24, digest_Sum_ce K), (31, digest_Code_ce K), (40, digest_New_ce K), (41, digest_NewMac_ce K), (30, book_Bytes_ce K), (42, digest_Stream_Write_ce K), (43, digest_Mac_Write_ce K), (29, book_SpoilBytes_ce K), (44, digest_Stream_Sum_ce K), (27, book_SameBytes_ce K), (51, digest_Stream_Copy_ce), (52, digest_Mac_Copy_ce), (45, digest_Mac_Sum_ce K)]
theorem law01_DigestCuts_Eok (K : Nat) : Env.Ok prog (tab (law01_DigestCuts_E K)) := (Env.cons (digest_Sum_ok K) (Env.cons (digest_Code_ok K) (Env.cons (digest_New_ok K) (Env.cons (digest_NewMac_ok K) (Env.cons (book_Bytes_ok K) (Env.cons (digest_Stream_Write_ok K) (Env.cons (digest_Mac_Write_ok K) (Env.cons (book_SpoilBytes_ok K) (Env.cons (digest_Stream_Sum_ok K) (Env.cons (book_SameBytes_ok K) (Env.cons (digest_Stream_Copy_ok) (Env.cons (digest_Mac_Copy_ok) (Env.cons (digest_Mac_Sum_ok K) (Env.nil _))))))))))))))
noncomputable def law01_DigestCuts_R (K : Nat) : List (Nat × RE) := [(49, law01_known_re), (26, law01_num_re), (46, digest_Stream_Count_re)]
theorem law01_DigestCuts_Rok (K : Nat) : REnv.Ok prog (tab (law01_DigestCuts_R K)) := (REnv.cons (law01_known_ok) (REnv.cons (law01_num_ok) (REnv.cons (digest_Stream_Count_ok) (REnv.nil _))))
noncomputable def law01_DigestCuts_s0 (K : Nat) (hash3 : Int) (key4 : Sl) (b5 : Sl) (w : World) : Option ((Bool × Unit) × World) :=
  (law01_known hash3).bind fun r_7 =>
  if (!r_7.1) = true then (some ((true, ()), w)) else (if (decide (((b5.len : Nat) : Int) > 65536)) = true then (some ((true, ()), w)) else (some (((decide (((key4.len : Nat) : Int) > 65536)), ()), w)))
noncomputable def law01_DigestCuts_s1 (K : Nat) (hash3 : Int) (want7 : Sl) (e8 : Int) (code9 : Sl) (f10 : Int) (s11 : Option Addr) (g12 : Int) (m13 : Option Addr) (h14 : Int) (w : World) : Option ((Bool × Unit) × World) :=
  (law01_num e8).bind fun r_22 =>
  if (r_22.1 != 0) = true then (some ((true, ()), w)) else ((law01_num f10).bind fun r_23 =>
  if (r_23.1 != 0) = true then (some ((true, ()), w)) else ((law01_num g12).bind fun r_24 =>
  if (r_24.1 != 0) = true then (some ((true, ()), w)) else ((law01_num h14).bind fun r_25 =>
  if (r_25.1 != 0) = true then (some ((true, ()), w)) else (if s11.isNone = true then (some ((true, ()), w)) else (if m13.isNone = true then (some ((true, ()), w)) else (if (((want7.len : Nat) : Int) != (IntKind.i64.wrap (Int.tdiv hash3 8))) = true then (some ((true, ()), w)) else (some (((((code9.len : Nat) : Int) != (IntKind.i64.wrap (Int.tdiv hash3 8))), ()), w))))))))
noncomputable def law01_DigestCuts_s3 (K : Nat) (cuts6 : Sl) (i16 : Int) (w : World) : Option ((Bool × Unit) × World) :=
  if (decide (i16 < ((cuts6.len : Nat) : Int))) = true then (some (((decide (i16 < 60)), ()), w)) else (some ((false, ()), w))
noncomputable def law01_DigestCuts_s4 (K : Nat) (b5 : Sl) (at15 : Int) (n17 : Int) (w : World) : Option ((Bool × Unit) × World) :=
  if (decide (n17 < 0)) = true then (some ((true, ()), w)) else (some (((decide (n17 > (IntKind.i64.wrap (((b5.len : Nat) : Int) - at15)))), ()), w))
noncomputable def law01_DigestCuts_s5 (K : Nat) (b5 : Sl) (at15 : Int) (n17 : Int) (a131 : Bool) (w : World) : Option ((Int × Unit) × World) :=
  if a131 = true then (some (((IntKind.i64.wrap (Int.tdiv (IntKind.i64.wrap (((b5.len : Nat) : Int) - at15)) 2)), ()), w)) else (some ((n17, ()), w))
noncomputable def law01_DigestCuts_s6 (K : Nat) (s11 : Option Addr) (m13 : Option Addr) (x18 : Sl) (w : World) : Option ((Bool × Unit) × World) :=
  bnd (bldS prog 24 2 #[(0, (.slice x18.a x18.len x18.cap)), (1, (.slice none 0 0))] w) fun s_38 w_39 =>
  bnd (digest_Stream_Write K s11 s_38 w_39) fun r_40 w_41 =>
  (law01_num r_40.1).bind fun r_42 =>
  if (r_42.1 != 0) = true then (some ((true, ()), w_41)) else (bnd (bldS prog 24 2 #[(0, (.slice none 0 0)), (1, (.slice x18.a x18.len x18.cap))] w_41) fun s_43 w_44 =>
  bnd (digest_Mac_Write K m13 s_43 w_44) fun r_45 w_46 =>
  (law01_num r_45.1).bind fun r_47 =>
  some (((r_47.1 != 0), ()), w_46))
noncomputable def law01_DigestCuts_s7 (K : Nat) (s11 : Option Addr) (at15 : Int) (p19 : Sl) (w : World) : Option ((Bool × Unit) × World) :=
  bnd (digest_Stream_Sum K s11 w) fun r_56 w_57 =>
  bnd (book_SameBytes K r_56.1 p19 w_57) fun r_58 w_59 =>
  if (!r_58.1) = true then (some ((true, ()), w_59)) else ((digest_Stream_Count s11 w_59).bind fun r_60 =>
  some (((r_60.1 != (IntKind.u64.wrap at15)), ()), w_59))
noncomputable def law01_DigestCuts_l2_b (K : Nat) (rec : Int → Sl → Sl → Sl → Sl → Option Addr → Option Addr → Int → Int → World → Option ((Out ((Option Addr) × (Option Addr) × Int × Unit) (Bool × Unit)) × World)) (hash3 : Int) (b5 : Sl) (cuts6 : Sl) (want7 : Sl) (code9 : Sl) (s11 : Option Addr) (m13 : Option Addr) (at15 : Int) (i16 : Int) (w : World) : Option ((Out ((Option Addr) × (Option Addr) × Int × Unit) (Bool × Unit)) × World) :=
  bnd (law01_DigestCuts_s3 K cuts6 i16 w) fun y_28 w_29 =>
  if y_28.1 = true then ((cuts6.a).bind fun p_30 =>
  if (0 : Int) ≤ i16 ∧ i16 < ((cuts6.len : Nat) : Int) then ((ldI .i64 (p_30.add ((Int.toNat i16) * 1)) w_29).bind fun v_31 =>
  bnd (law01_DigestCuts_s4 K b5 at15 v_31 w_29) fun y_32 w_33 =>
  bnd (law01_DigestCuts_s5 K b5 at15 v_31 y_32.1 w_33) fun y_34 w_35 =>
  if (0 : Int) ≤ (IntKind.i64.wrap (at15 + y_34.1)) ∧ (IntKind.i64.wrap (at15 + y_34.1)) ≤ ((b5.cap : Nat) : Int) then (if (0 : Int) ≤ at15 ∧ at15 ≤ (((Int.toNat ((IntKind.i64.wrap (at15 + y_34.1)))) : Nat) : Int) then (bnd (book_Bytes K ⟨(sla b5.a (Int.toNat (at15)) b5.cap 1), ((Int.toNat ((IntKind.i64.wrap (at15 + y_34.1)))) - (Int.toNat (at15))), (b5.cap - (Int.toNat (at15)))⟩ w_35) fun r_36 w_37 =>
  bnd (law01_DigestCuts_s6 K s11 m13 r_36.1 w_37) fun y_48 w_49 =>
  if y_48.1 = true then (some (.ret (false, ()), w_49)) else (bnd (book_SpoilBytes K r_36.1 w_49) fun r_50 w_51 =>
  if (0 : Int) ≤ (IntKind.i64.wrap (at15 + y_34.1)) ∧ (IntKind.i64.wrap (at15 + y_34.1)) ≤ ((b5.cap : Nat) : Int) then (bnd (bldS prog 24 1 #[(0, (.slice (sla b5.a 0 b5.cap 1) ((Int.toNat ((IntKind.i64.wrap (at15 + y_34.1)))) - 0) (b5.cap - 0)))] w_51) fun s_52 w_53 =>
  bnd (digest_Sum K hash3 s_52 w_53) fun r_54 w_55 =>
  bnd (law01_DigestCuts_s7 K s11 (IntKind.i64.wrap (at15 + y_34.1)) r_54.1 w_55) fun y_61 w_62 =>
  if y_61.1 = true then (some (.ret (false, ()), w_62)) else (if ((Int.tmod i16 3) == 1) = true then (bnd (digest_Stream_Copy s11 w_62) fun r_63 w_64 =>
  bnd (digest_Mac_Copy m13 w_64) fun r_65 w_66 =>
  if r_63.1.isNone = true then (some (.ret (false, ()), w_66)) else (if r_65.1.isNone = true then (some (.ret (false, ()), w_66)) else (rec hash3 b5 cuts6 want7 code9 r_63.1 r_65.1 (IntKind.i64.wrap (at15 + y_34.1)) (IntKind.i64.wrap (i16 + 1)) w_66))) else (rec hash3 b5 cuts6 want7 code9 s11 m13 (IntKind.i64.wrap (at15 + y_34.1)) (IntKind.i64.wrap (i16 + 1)) w_62))) else none)) else none) else none) else none) else (some (.norm (s11, m13, at15, ()), w_29))
noncomputable def law01_DigestCuts_l2 (K : Nat) (n : Nat) : Int → Sl → Sl → Sl → Sl → Option Addr → Option Addr → Int → Int → World → Option ((Out ((Option Addr) × (Option Addr) × Int × Unit) (Bool × Unit)) × World) := iter (fun _ _ _ _ _ _ _ _ _ _ => none) (law01_DigestCuts_l2_b K) n
/-- coffer/cofferlaw01.DigestCuts -/
noncomputable def law01_DigestCuts (K : Nat) (c0 : Array Value) (w : World) : Option ((Bool × Unit) × World) :=
  bnd (newB c0 64 w) fun p_1 w_2 =>
  (ldI .i64 (p_1.add 0) w_2).bind fun v_3 =>
  (ldS (p_1.add 1) w_2).bind fun v_4 =>
  (ldS (p_1.add 2) w_2).bind fun v_5 =>
  (ldS (p_1.add 3) w_2).bind fun v_6 =>
  bnd (law01_DigestCuts_s0 K v_3 v_4 v_5 w_2) fun y_8 w_9 =>
  if y_8.1 = true then (some ((true, ()), w_9)) else (bnd (bldS prog 24 1 #[(0, (.slice v_5.a v_5.len v_5.cap))] w_9) fun s_10 w_11 =>
  bnd (digest_Sum K v_3 s_10 w_11) fun r_12 w_13 =>
  bnd (bldS prog 24 1 #[(0, (.slice v_5.a v_5.len v_5.cap))] w_13) fun s_14 w_15 =>
  bnd (digest_Code K v_3 v_4 s_14 w_15) fun r_16 w_17 =>
  bnd (digest_New K v_3 w_17) fun r_18 w_19 =>
  bnd (digest_NewMac K v_3 v_4 w_19) fun r_20 w_21 =>
  bnd (law01_DigestCuts_s1 K v_3 r_12.1 r_12.2.1 r_16.1 r_16.2.1 r_18.1 r_18.2.1 r_20.1 r_20.2.1 w_21) fun y_26 w_27 =>
  if y_26.1 = true then (some ((false, ()), w_27)) else (bnd (law01_DigestCuts_l2 K K v_3 v_5 v_6 r_12.1 r_16.1 r_18.1 r_20.1 0 0 w_27) fun y_67 w_68 =>
  (match y_67 with
  | .norm z_69n => (if (0 : Int) ≤ z_69n.2.2.1 ∧ z_69n.2.2.1 ≤ ((v_5.len : Nat) : Int) then (bnd (bldS prog 24 1 #[(0, (.slice (sla v_5.a (Int.toNat (z_69n.2.2.1)) v_5.cap 1) (v_5.len - (Int.toNat (z_69n.2.2.1))) (v_5.cap - (Int.toNat (z_69n.2.2.1)))))] w_68) fun s_70 w_71 =>
  bnd (digest_Stream_Write K z_69n.1 s_70 w_71) fun r_72 w_73 =>
  (law01_num r_72.1).bind fun r_74 =>
  if (r_74.1 == 0) = true then (if (0 : Int) ≤ z_69n.2.2.1 ∧ z_69n.2.2.1 ≤ ((v_5.len : Nat) : Int) then (bnd (bldS prog 24 1 #[(0, (.slice (sla v_5.a (Int.toNat (z_69n.2.2.1)) v_5.cap 1) (v_5.len - (Int.toNat (z_69n.2.2.1))) (v_5.cap - (Int.toNat (z_69n.2.2.1)))))] w_73) fun s_75 w_76 =>
  bnd (digest_Mac_Write K z_69n.2.1 s_75 w_76) fun r_77 w_78 =>
  (law01_num r_77.1).bind fun r_79 =>
  if (r_79.1 == 0) = true then (bnd (digest_Stream_Sum K z_69n.1 w_78) fun r_80 w_81 =>
  bnd (book_SameBytes K r_80.1 r_12.1 w_81) fun r_82 w_83 =>
  if r_82.1 = true then (bnd (digest_Mac_Sum K z_69n.2.1 w_83) fun r_84 w_85 =>
  bnd (book_SameBytes K r_84.1 r_16.1 w_85) fun r_86 w_87 =>
  some ((r_86.1, ()), w_87)) else (some ((false, ()), w_83))) else (some ((false, ()), w_78))) else none) else (some ((false, ()), w_73))) else none)
  | .ret z_69r => (some ((z_69r.1, ()), w_68)))))
theorem law01_DigestCuts_s0_ok (K : Nat) : StmtNOk prog [(3, .int .i64), (4, .sl), (5, .sl)] [(41, .bool)] [(29, 42)] (fun x w => law01_DigestCuts_s0 K x.1 x.2.1 x.2.2.1 w) (cd (bodyOf f11) [1, 1, 1, 1, 1, 0, 0]) :=
    mk_stmtN (O := tabL []) (root := (bodyOf f11)) (π := [1, 1, 1, 1, 1, 0, 0]) (Li := [(3, .int .i64), (4, .sl), (5, .sl)]) (Lo := [(41, .bool)]) (S := (fun x w => law01_DigestCuts_s0 K x.1 x.2.1 x.2.2.1 w)) (law01_DigestCuts_Eok K) (law01_DigestCuts_Rok K) rfl (Orc.nil _ _ _) (by kernel_rfl) (fun _ _ => by kernel_rfl)
noncomputable def law01_DigestCuts_s0_se (K : Nat) : SE := stmtN [(3, .int .i64), (4, .sl), (5, .sl)] [(41, .bool)] [(29, 42)] (fun x w => law01_DigestCuts_s0 K x.1 x.2.1 x.2.2.1 w)
theorem law01_DigestCuts_s0_se_ok (K : Nat) (R : Rg) (h : subRB [(29, 42)] R = true) : (law01_DigestCuts_s0_se K).Ok prog R (cd (bodyOf f11) [1, 1, 1, 1, 1, 0, 0]) := stmtN_ok (Li := [(3, .int .i64), (4, .sl), (5, .sl)]) (Lo := [(41, .bool)]) (S := (fun x w => law01_DigestCuts_s0 K x.1 x.2.1 x.2.2.1 w)) (law01_DigestCuts_s0_ok K) (subR_of h)
theorem law01_DigestCuts_s1_ok (K : Nat) : StmtNOk prog [(3, .int .i64), (7, .sl), (8, .int .i64), (9, .sl), (10, .int .i64), (11, .ptr), (12, .int .i64), (13, .ptr), (14, .int .i64)] [(107, .bool)] [(68, 108)] (fun x w => law01_DigestCuts_s1 K x.1 x.2.1 x.2.2.1 x.2.2.2.1 x.2.2.2.2.1 x.2.2.2.2.2.1 x.2.2.2.2.2.2.1 x.2.2.2.2.2.2.2.1 x.2.2.2.2.2.2.2.2.1 w) (cd (bodyOf f11) [1, 1, 1, 1, 1, 1, 1, 1, 1, 1, 0, 0]) :=
    mk_stmtN (O := tabL []) (root := (bodyOf f11)) (π := [1, 1, 1, 1, 1, 1, 1, 1, 1, 1, 0, 0]) (Li := [(3, .int .i64), (7, .sl), (8, .int .i64), (9, .sl), (10, .int .i64), (11, .ptr), (12, .int .i64), (13, .ptr), (14, .int .i64)]) (Lo := [(107, .bool)]) (S := (fun x w => law01_DigestCuts_s1 K x.1 x.2.1 x.2.2.1 x.2.2.2.1 x.2.2.2.2.1 x.2.2.2.2.2.1 x.2.2.2.2.2.2.1 x.2.2.2.2.2.2.2.1 x.2.2.2.2.2.2.2.2.1 w)) (law01_DigestCuts_Eok K) (law01_DigestCuts_Rok K) rfl (Orc.nil _ _ _) (by kernel_rfl) (fun _ _ => by kernel_rfl)
noncomputable def law01_DigestCuts_s1_se (K : Nat) : SE := stmtN [(3, .int .i64), (7, .sl), (8, .int .i64), (9, .sl), (10, .int .i64), (11, .ptr), (12, .int .i64), (13, .ptr), (14, .int .i64)] [(107, .bool)] [(68, 108)] (fun x w => law01_DigestCuts_s1 K x.1 x.2.1 x.2.2.1 x.2.2.2.1 x.2.2.2.2.1 x.2.2.2.2.2.1 x.2.2.2.2.2.2.1 x.2.2.2.2.2.2.2.1 x.2.2.2.2.2.2.2.2.1 w)
theorem law01_DigestCuts_s1_se_ok (K : Nat) (R : Rg) (h : subRB [(68, 108)] R = true) : (law01_DigestCuts_s1_se K).Ok prog R (cd (bodyOf f11) [1, 1, 1, 1, 1, 1, 1, 1, 1, 1, 0, 0]) := stmtN_ok (Li := [(3, .int .i64), (7, .sl), (8, .int .i64), (9, .sl), (10, .int .i64), (11, .ptr), (12, .int .i64), (13, .ptr), (14, .int .i64)]) (Lo := [(107, .bool)]) (S := (fun x w => law01_DigestCuts_s1 K x.1 x.2.1 x.2.2.1 x.2.2.2.1 x.2.2.2.2.1 x.2.2.2.2.2.1 x.2.2.2.2.2.2.1 x.2.2.2.2.2.2.2.1 x.2.2.2.2.2.2.2.2.1 w)) (law01_DigestCuts_s1_ok K) (subR_of h)
theorem law01_DigestCuts_s3_ok (K : Nat) : StmtNOk prog [(6, .sl), (16, .int .i64)] [(115, .bool)] [(108, 116)] (fun x w => law01_DigestCuts_s3 K x.1 x.2.1 w) (cd (bodyOf f11) [1, 1, 1, 1, 1, 1, 1, 1, 1, 1, 1, 1, 0, 1, 0, 0, 0, 0]) :=
    mk_stmtN (O := tabL []) (root := (bodyOf f11)) (π := [1, 1, 1, 1, 1, 1, 1, 1, 1, 1, 1, 1, 0, 1, 0, 0, 0, 0]) (Li := [(6, .sl), (16, .int .i64)]) (Lo := [(115, .bool)]) (S := (fun x w => law01_DigestCuts_s3 K x.1 x.2.1 w)) (law01_DigestCuts_Eok K) (law01_DigestCuts_Rok K) rfl (Orc.nil _ _ _) (by kernel_rfl) (fun _ _ => by kernel_rfl)
noncomputable def law01_DigestCuts_s3_se (K : Nat) : SE := stmtN [(6, .sl), (16, .int .i64)] [(115, .bool)] [(108, 116)] (fun x w => law01_DigestCuts_s3 K x.1 x.2.1 w)
theorem law01_DigestCuts_s3_se_ok (K : Nat) (R : Rg) (h : subRB [(108, 116)] R = true) : (law01_DigestCuts_s3_se K).Ok prog R (cd (bodyOf f11) [1, 1, 1, 1, 1, 1, 1, 1, 1, 1, 1, 1, 0, 1, 0, 0, 0, 0]) := stmtN_ok (Li := [(6, .sl), (16, .int .i64)]) (Lo := [(115, .bool)]) (S := (fun x w => law01_DigestCuts_s3 K x.1 x.2.1 w)) (law01_DigestCuts_s3_ok K) (subR_of h)
theorem law01_DigestCuts_s4_ok (K : Nat) : StmtNOk prog [(5, .sl), (15, .int .i64), (17, .int .i64)] [(131, .bool)] [(122, 132)] (fun x w => law01_DigestCuts_s4 K x.1 x.2.1 x.2.2.1 w) (cd (bodyOf f11) [1, 1, 1, 1, 1, 1, 1, 1, 1, 1, 1, 1, 0, 1, 0, 0, 1, 0, 0, 1, 0, 0]) :=
    mk_stmtN (O := tabL []) (root := (bodyOf f11)) (π := [1, 1, 1, 1, 1, 1, 1, 1, 1, 1, 1, 1, 0, 1, 0, 0, 1, 0, 0, 1, 0, 0]) (Li := [(5, .sl), (15, .int .i64), (17, .int .i64)]) (Lo := [(131, .bool)]) (S := (fun x w => law01_DigestCuts_s4 K x.1 x.2.1 x.2.2.1 w)) (law01_DigestCuts_Eok K) (law01_DigestCuts_Rok K) rfl (Orc.nil _ _ _) (by kernel_rfl) (fun _ _ => by kernel_rfl)
noncomputable def law01_DigestCuts_s4_se (K : Nat) : SE := stmtN [(5, .sl), (15, .int .i64), (17, .int .i64)] [(131, .bool)] [(122, 132)] (fun x w => law01_DigestCuts_s4 K x.1 x.2.1 x.2.2.1 w)
theorem law01_DigestCuts_s4_se_ok (K : Nat) (R : Rg) (h : subRB [(122, 132)] R = true) : (law01_DigestCuts_s4_se K).Ok prog R (cd (bodyOf f11) [1, 1, 1, 1, 1, 1, 1, 1, 1, 1, 1, 1, 0, 1, 0, 0, 1, 0, 0, 1, 0, 0]) := stmtN_ok (Li := [(5, .sl), (15, .int .i64), (17, .int .i64)]) (Lo := [(131, .bool)]) (S := (fun x w => law01_DigestCuts_s4 K x.1 x.2.1 x.2.2.1 w)) (law01_DigestCuts_s4_ok K) (subR_of h)
theorem law01_DigestCuts_s5_ok (K : Nat) : StmtNOk prog [(5, .sl), (15, .int .i64), (17, .int .i64), (131, .bool)] [(17, .int .i64)] [(17, 18), (132, 137)] (fun x w => law01_DigestCuts_s5 K x.1 x.2.1 x.2.2.1 x.2.2.2.1 w) (cd (bodyOf f11) [1, 1, 1, 1, 1, 1, 1, 1, 1, 1, 1, 1, 0, 1, 0, 0, 1, 0, 0, 1, 0, 1]) :=
    mk_stmtN (O := tabL []) (root := (bodyOf f11)) (π := [1, 1, 1, 1, 1, 1, 1, 1, 1, 1, 1, 1, 0, 1, 0, 0, 1, 0, 0, 1, 0, 1]) (Li := [(5, .sl), (15, .int .i64), (17, .int .i64), (131, .bool)]) (Lo := [(17, .int .i64)]) (S := (fun x w => law01_DigestCuts_s5 K x.1 x.2.1 x.2.2.1 x.2.2.2.1 w)) (law01_DigestCuts_Eok K) (law01_DigestCuts_Rok K) rfl (Orc.nil _ _ _) (by kernel_rfl) (fun _ _ => by kernel_rfl)
noncomputable def law01_DigestCuts_s5_se (K : Nat) : SE := stmtN [(5, .sl), (15, .int .i64), (17, .int .i64), (131, .bool)] [(17, .int .i64)] [(17, 18), (132, 137)] (fun x w => law01_DigestCuts_s5 K x.1 x.2.1 x.2.2.1 x.2.2.2.1 w)
theorem law01_DigestCuts_s5_se_ok (K : Nat) (R : Rg) (h : subRB [(17, 18), (132, 137)] R = true) : (law01_DigestCuts_s5_se K).Ok prog R (cd (bodyOf f11) [1, 1, 1, 1, 1, 1, 1, 1, 1, 1, 1, 1, 0, 1, 0, 0, 1, 0, 0, 1, 0, 1]) := stmtN_ok (Li := [(5, .sl), (15, .int .i64), (17, .int .i64), (131, .bool)]) (Lo := [(17, .int .i64)]) (S := (fun x w => law01_DigestCuts_s5 K x.1 x.2.1 x.2.2.1 x.2.2.2.1 w)) (law01_DigestCuts_s5_ok K) (subR_of h)
theorem law01_DigestCuts_s6_ok (K : Nat) : StmtNOk prog [(11, .ptr), (13, .ptr), (18, .sl)] [(157, .bool)] [(144, 158)] (fun x w => law01_DigestCuts_s6 K x.1 x.2.1 x.2.2.1 w) (cd (bodyOf f11) [1, 1, 1, 1, 1, 1, 1, 1, 1, 1, 1, 1, 0, 1, 0, 0, 1, 0, 0, 1, 1, 1, 0, 0]) :=
    mk_stmtN (O := tabL []) (root := (bodyOf f11)) (π := [1, 1, 1, 1, 1, 1, 1, 1, 1, 1, 1, 1, 0, 1, 0, 0, 1, 0, 0, 1, 1, 1, 0, 0]) (Li := [(11, .ptr), (13, .ptr), (18, .sl)]) (Lo := [(157, .bool)]) (S := (fun x w => law01_DigestCuts_s6 K x.1 x.2.1 x.2.2.1 w)) (law01_DigestCuts_Eok K) (law01_DigestCuts_Rok K) rfl (Orc.nil _ _ _) (by kernel_rfl) (fun _ _ => by kernel_rfl)
noncomputable def law01_DigestCuts_s6_se (K : Nat) : SE := stmtN [(11, .ptr), (13, .ptr), (18, .sl)] [(157, .bool)] [(144, 158)] (fun x w => law01_DigestCuts_s6 K x.1 x.2.1 x.2.2.1 w)
theorem law01_DigestCuts_s6_se_ok (K : Nat) (R : Rg) (h : subRB [(144, 158)] R = true) : (law01_DigestCuts_s6_se K).Ok prog R (cd (bodyOf f11) [1, 1, 1, 1, 1, 1, 1, 1, 1, 1, 1, 1, 0, 1, 0, 0, 1, 0, 0, 1, 1, 1, 0, 0]) := stmtN_ok (Li := [(11, .ptr), (13, .ptr), (18, .sl)]) (Lo := [(157, .bool)]) (S := (fun x w => law01_DigestCuts_s6 K x.1 x.2.1 x.2.2.1 w)) (law01_DigestCuts_s6_ok K) (subR_of h)
theorem law01_DigestCuts_s7_ok (K : Nat) : StmtNOk prog [(11, .ptr), (15, .int .i64), (19, .sl)] [(183, .bool)] [(172, 184)] (fun x w => law01_DigestCuts_s7 K x.1 x.2.1 x.2.2.1 w) (cd (bodyOf f11) [1, 1, 1, 1, 1, 1, 1, 1, 1, 1, 1, 1, 0, 1, 0, 0, 1, 0, 0, 1, 1, 1, 1, 1, 1, 1, 0, 0]) :=
    mk_stmtN (O := tabL []) (root := (bodyOf f11)) (π := [1, 1, 1, 1, 1, 1, 1, 1, 1, 1, 1, 1, 0, 1, 0, 0, 1, 0, 0, 1, 1, 1, 1, 1, 1, 1, 0, 0]) (Li := [(11, .ptr), (15, .int .i64), (19, .sl)]) (Lo := [(183, .bool)]) (S := (fun x w => law01_DigestCuts_s7 K x.1 x.2.1 x.2.2.1 w)) (law01_DigestCuts_Eok K) (law01_DigestCuts_Rok K) rfl (Orc.nil _ _ _) (by kernel_rfl) (fun _ _ => by kernel_rfl)
noncomputable def law01_DigestCuts_s7_se (K : Nat) : SE := stmtN [(11, .ptr), (15, .int .i64), (19, .sl)] [(183, .bool)] [(172, 184)] (fun x w => law01_DigestCuts_s7 K x.1 x.2.1 x.2.2.1 w)
theorem law01_DigestCuts_s7_se_ok (K : Nat) (R : Rg) (h : subRB [(172, 184)] R = true) : (law01_DigestCuts_s7_se K).Ok prog R (cd (bodyOf f11) [1, 1, 1, 1, 1, 1, 1, 1, 1, 1, 1, 1, 0, 1, 0, 0, 1, 0, 0, 1, 1, 1, 1, 1, 1, 1, 0, 0]) := stmtN_ok (Li := [(11, .ptr), (15, .int .i64), (19, .sl)]) (Lo := [(183, .bool)]) (S := (fun x w => law01_DigestCuts_s7 K x.1 x.2.1 x.2.2.1 w)) (law01_DigestCuts_s7_ok K) (subR_of h)
theorem law01_DigestCuts_l2_ok (K : Nat) (n : Nat) : StmtOk prog [(3, .int .i64), (5, .sl), (6, .sl), (7, .sl), (9, .sl), (11, .ptr), (13, .ptr), (15, .int .i64), (16, .int .i64)] [(11, .ptr), (13, .ptr), (15, .int .i64)] [(2, .bool)] [(2, 3), (11, 12), (13, 14), (15, 21), (108, 197)] ((fun n x w => law01_DigestCuts_l2 K n x.1 x.2.1 x.2.2.1 x.2.2.2.1 x.2.2.2.2.1 x.2.2.2.2.2.1 x.2.2.2.2.2.2.1 x.2.2.2.2.2.2.2.1 x.2.2.2.2.2.2.2.2.1 w) n) (.block 0 (.loop (cd (bodyOf f11) [1, 1, 1, 1, 1, 1, 1, 1, 1, 1, 1, 1, 0, 1, 0, 0]))) :=
    mk_loop (O := tabL [([1, 1, 1, 1, 1, 1, 1, 1, 1, 1, 1, 1, 0, 1, 0, 0, 0, 0], law01_DigestCuts_s3_se K), ([1, 1, 1, 1, 1, 1, 1, 1, 1, 1, 1, 1, 0, 1, 0, 0, 1, 0, 0, 1, 0, 0], law01_DigestCuts_s4_se K), ([1, 1, 1, 1, 1, 1, 1, 1, 1, 1, 1, 1, 0, 1, 0, 0, 1, 0, 0, 1, 0, 1], law01_DigestCuts_s5_se K), ([1, 1, 1, 1, 1, 1, 1, 1, 1, 1, 1, 1, 0, 1, 0, 0, 1, 0, 0, 1, 1, 1, 0, 0], law01_DigestCuts_s6_se K), ([1, 1, 1, 1, 1, 1, 1, 1, 1, 1, 1, 1, 0, 1, 0, 0, 1, 0, 0, 1, 1, 1, 1, 1, 1, 1, 0, 0], law01_DigestCuts_s7_se K)]) (root := (bodyOf f11)) (π := [1, 1, 1, 1, 1, 1, 1, 1, 1, 1, 1, 1, 0, 1, 0, 0]) (id := 0) (Li := [(3, .int .i64), (5, .sl), (6, .sl), (7, .sl), (9, .sl), (11, .ptr), (13, .ptr), (15, .int .i64), (16, .int .i64)]) (Lo := [(11, .ptr), (13, .ptr), (15, .int .i64)]) (Lr := [(2, .bool)]) (S := (fun n x w => law01_DigestCuts_l2 K n x.1 x.2.1 x.2.2.1 x.2.2.2.1 x.2.2.2.2.1 x.2.2.2.2.2.1 x.2.2.2.2.2.2.1 x.2.2.2.2.2.2.2.1 x.2.2.2.2.2.2.2.2.1 w)) (body := cd (bodyOf f11) [1, 1, 1, 1, 1, 1, 1, 1, 1, 1, 1, 1, 0, 1, 0, 0]) (law01_DigestCuts_Eok K) (law01_DigestCuts_Rok K) rfl (Orc.cons (by kernel_rfl) (law01_DigestCuts_s3_se_ok K [(2, 3), (11, 12), (13, 14), (15, 21), (108, 197)] (by kernel_rfl)) (Orc.cons (by kernel_rfl) (law01_DigestCuts_s4_se_ok K [(2, 3), (11, 12), (13, 14), (15, 21), (108, 197)] (by kernel_rfl)) (Orc.cons (by kernel_rfl) (law01_DigestCuts_s5_se_ok K [(2, 3), (11, 12), (13, 14), (15, 21), (108, 197)] (by kernel_rfl)) (Orc.cons (by kernel_rfl) (law01_DigestCuts_s6_se_ok K [(2, 3), (11, 12), (13, 14), (15, 21), (108, 197)] (by kernel_rfl)) (Orc.cons (by kernel_rfl) (law01_DigestCuts_s7_se_ok K [(2, 3), (11, 12), (13, 14), (15, 21), (108, 197)] (by kernel_rfl)) (Orc.nil _ _ _)))))) (by kernel_rfl) (fun _ _ => by kernel_rfl) (fun _ _ _ => by kernel_rfl) n
noncomputable def law01_DigestCuts_l2_se (K : Nat) : SE := stmt [(3, .int .i64), (5, .sl), (6, .sl), (7, .sl), (9, .sl), (11, .ptr), (13, .ptr), (15, .int .i64), (16, .int .i64)] [(11, .ptr), (13, .ptr), (15, .int .i64)] [(2, .bool)] [(2, 3), (11, 12), (13, 14), (15, 21), (108, 197)] (fun x w => law01_DigestCuts_l2 K K x.1 x.2.1 x.2.2.1 x.2.2.2.1 x.2.2.2.2.1 x.2.2.2.2.2.1 x.2.2.2.2.2.2.1 x.2.2.2.2.2.2.2.1 x.2.2.2.2.2.2.2.2.1 w)
theorem law01_DigestCuts_l2_se_ok (K : Nat) (R : Rg) (h : subRB [(2, 3), (11, 12), (13, 14), (15, 21), (108, 197)] R = true) : (law01_DigestCuts_l2_se K).Ok prog R (.block 0 (.loop (cd (bodyOf f11) [1, 1, 1, 1, 1, 1, 1, 1, 1, 1, 1, 1, 0, 1, 0, 0]))) := stmt_ok (Li := [(3, .int .i64), (5, .sl), (6, .sl), (7, .sl), (9, .sl), (11, .ptr), (13, .ptr), (15, .int .i64), (16, .int .i64)]) (Lo := [(11, .ptr), (13, .ptr), (15, .int .i64)]) (Lr := [(2, .bool)]) (S := (fun x w => law01_DigestCuts_l2 K K x.1 x.2.1 x.2.2.1 x.2.2.2.1 x.2.2.2.2.1 x.2.2.2.2.2.1 x.2.2.2.2.2.2.1 x.2.2.2.2.2.2.2.1 x.2.2.2.2.2.2.2.2.1 w)) (law01_DigestCuts_l2_ok K K) (subR_of h)
theorem law01_DigestCuts_facts : FunFacts prog 11 f11 (bodyOf f11) [(0, .agg)] [(0, 227)] := ⟨func11, by kernel_rfl, by kernel_rfl, by kernel_rfl, by kernel_rfl, by kernel_rfl⟩
theorem law01_DigestCuts_calls (K : Nat) (x : TT [(0, .agg)]) (w : World) (y : TR [.bool]) (w2 : World) (h : law01_DigestCuts K x.1 w = some (y, w2)) : Calls prog 11 (encA [(0, .agg)] x).toArray w (fun e w3 => e = .returned (resV (encR [.bool] y)) ∧ w3 = w2) :=
    mk_fun (O := tabL [([1, 1, 1, 1, 1, 0, 0], law01_DigestCuts_s0_se K), ([1, 1, 1, 1, 1, 1, 1, 1, 1, 1, 0, 0], law01_DigestCuts_s1_se K), ([1, 1, 1, 1, 1, 1, 1, 1, 1, 1, 1, 1, 0, 1], law01_DigestCuts_l2_se K), ([1, 1, 1, 1, 1, 1, 1, 1, 1, 1, 1, 1, 0, 1, 0, 0, 0, 0], law01_DigestCuts_s3_se K), ([1, 1, 1, 1, 1, 1, 1, 1, 1, 1, 1, 1, 0, 1, 0, 0, 1, 0, 0, 1, 0, 0], law01_DigestCuts_s4_se K), ([1, 1, 1, 1, 1, 1, 1, 1, 1, 1, 1, 1, 0, 1, 0, 0, 1, 0, 0, 1, 0, 1], law01_DigestCuts_s5_se K), ([1, 1, 1, 1, 1, 1, 1, 1, 1, 1, 1, 1, 0, 1, 0, 0, 1, 0, 0, 1, 1, 1, 0, 0], law01_DigestCuts_s6_se K), ([1, 1, 1, 1, 1, 1, 1, 1, 1, 1, 1, 1, 0, 1, 0, 0, 1, 0, 0, 1, 1, 1, 1, 1, 1, 1, 0, 0], law01_DigestCuts_s7_se K)]) (Lp := [(0, .agg)]) (Rt := [.bool]) (S := (fun x w => law01_DigestCuts K x.1 w)) (law01_DigestCuts_Eok K) (law01_DigestCuts_Rok K) rfl law01_DigestCuts_facts (Orc.cons (by kernel_rfl) (law01_DigestCuts_s0_se_ok K [(0, 227)] (by kernel_rfl)) (Orc.cons (by kernel_rfl) (law01_DigestCuts_s1_se_ok K [(0, 227)] (by kernel_rfl)) (Orc.cons (by kernel_rfl) (law01_DigestCuts_l2_se_ok K [(0, 227)] (by kernel_rfl)) (Orc.cons (by kernel_rfl) (law01_DigestCuts_s3_se_ok K [(0, 227)] (by kernel_rfl)) (Orc.cons (by kernel_rfl) (law01_DigestCuts_s4_se_ok K [(0, 227)] (by kernel_rfl)) (Orc.cons (by kernel_rfl) (law01_DigestCuts_s5_se_ok K [(0, 227)] (by kernel_rfl)) (Orc.cons (by kernel_rfl) (law01_DigestCuts_s6_se_ok K [(0, 227)] (by kernel_rfl)) (Orc.cons (by kernel_rfl) (law01_DigestCuts_s7_se_ok K [(0, 227)] (by kernel_rfl)) (Orc.nil _ _ _))))))))) (fun _ _ => by kernel_rfl) x w y w2 h
noncomputable def law01_DigestCuts_ce (K : Nat) : CE := funE [(0, .agg)] [.bool] (fun x w => law01_DigestCuts K x.1 w)
theorem law01_DigestCuts_ok (K : Nat) : (law01_DigestCuts_ce K).Ok prog 11 := funE_ok (Rt := [.bool]) (S := (fun x w => law01_DigestCuts K x.1 w)) law01_DigestCuts_facts fun x w y w2 h => law01_DigestCuts_calls K x w y w2 h

noncomputable def law01_DigestPrefixes_E (K : Nat) : List (Nat × CE) := [(35, digest_Stretch_ce K), (27, book_SameBytes_ce K), (37, digest_Extract_ce K), (53, digest_Expand_ce K)]
theorem law01_DigestPrefixes_Eok (K : Nat) : Env.Ok prog (tab (law01_DigestPrefixes_E K)) := (Env.cons (digest_Stretch_ok K) (Env.cons (book_SameBytes_ok K) (Env.cons (digest_Extract_ok K) (Env.cons (digest_Expand_ok K) (Env.nil _)))))
noncomputable def law01_DigestPrefixes_R (K : Nat) : List (Nat × RE) := [(49, law01_known_re), (26, law01_num_re)]
theorem law01_DigestPrefixes_Rok (K : Nat) : REnv.Ok prog (tab (law01_DigestPrefixes_R K)) := (REnv.cons (law01_known_ok) (REnv.cons (law01_num_ok) (REnv.nil _)))
noncomputable def law01_DigestPrefixes_s0 (K : Nat) (more1 : Int) (hash5 : Int) (pass6 : Sl) (salt7 : Sl) (turns8 : Int) (n9 : Int) (w : World) : Option ((Bool × Unit) × World) :=
  (law01_known hash5).bind fun r_8 =>
  if (!r_8.1) = true then (some ((true, ()), w)) else (if (decide (turns8 < 1)) = true then (some ((true, ()), w)) else (if (decide (turns8 > 20)) = true then (some ((true, ()), w)) else (if (decide (n9 < 1)) = true then (some ((true, ()), w)) else (if (decide (n9 > 300)) = true then (some ((true, ()), w)) else (if (decide (more1 < 0)) = true then (some ((true, ()), w)) else (if (decide (more1 > 300)) = true then (some ((true, ()), w)) else (some (((decide ((IntKind.i64.wrap (((pass6.len : Nat) : Int) + ((salt7.len : Nat) : Int))) > 65536)), ()), w))))))))
noncomputable def law01_DigestPrefixes_s1 (K : Nat) (more1 : Int) (n9 : Int) (a10 : Sl) (e11 : Int) (b12 : Sl) (f13 : Int) (w : World) : Option ((Bool × Unit) × World) :=
  (law01_num e11).bind fun r_15 =>
  if (r_15.1 != 0) = true then (some ((true, ()), w)) else ((law01_num f13).bind fun r_16 =>
  if (r_16.1 != 0) = true then (some ((true, ()), w)) else (if (((a10.len : Nat) : Int) != n9) = true then (some ((true, ()), w)) else (if (((b12.len : Nat) : Int) != (IntKind.i64.wrap (n9 + more1))) = true then (some ((true, ()), w)) else (if (0 : Int) ≤ n9 ∧ n9 ≤ ((b12.cap : Nat) : Int) then (bnd (book_SameBytes K a10 ⟨(sla b12.a 0 b12.cap 1), ((Int.toNat (n9)) - 0), (b12.cap - 0)⟩ w) fun r_17 w_18 =>
  some (((!r_17.1), ()), w_18)) else none))))
noncomputable def law01_DigestPrefixes_s2 (K : Nat) (hash5 : Int) (e11 : Int) (k14 : Sl) (w : World) : Option ((Bool × Unit) × World) :=
  (law01_num e11).bind fun r_23 =>
  if (r_23.1 != 0) = true then (some ((true, ()), w)) else (some (((((k14.len : Nat) : Int) != (IntKind.i64.wrap (Int.tdiv hash5 8))), ()), w))
/-- coffer/cofferlaw01.DigestPrefixes -/
noncomputable def law01_DigestPrefixes (K : Nat) (d0 : Array Value) (more1 : Int) (w : World) : Option ((Bool × Unit) × World) :=
  bnd (newB d0 42 w) fun p_1 w_2 =>
  (ldI .i64 (p_1.add 0) w_2).bind fun v_3 =>
  (ldS (p_1.add 1) w_2).bind fun v_4 =>
  (ldS (p_1.add 2) w_2).bind fun v_5 =>
  (ldI .i64 (p_1.add 4) w_2).bind fun v_6 =>
  (ldI .i64 (p_1.add 5) w_2).bind fun v_7 =>
  bnd (law01_DigestPrefixes_s0 K more1 v_3 v_4 v_5 v_6 v_7 w_2) fun y_9 w_10 =>
  if y_9.1 = true then (some ((true, ()), w_10)) else (bnd (digest_Stretch K v_3 v_4 v_5 v_6 v_7 w_10) fun r_11 w_12 =>
  bnd (digest_Stretch K v_3 v_4 v_5 v_6 (IntKind.i64.wrap (v_7 + more1)) w_12) fun r_13 w_14 =>
  bnd (law01_DigestPrefixes_s1 K more1 v_7 r_11.1 r_11.2.1 r_13.1 r_13.2.1 w_14) fun y_19 w_20 =>
  if y_19.1 = true then (some ((false, ()), w_20)) else (bnd (digest_Extract K v_3 v_5 v_4 w_20) fun r_21 w_22 =>
  bnd (law01_DigestPrefixes_s2 K v_3 r_21.2.1 r_21.1 w_22) fun y_24 w_25 =>
  if y_24.1 = true then (some ((false, ()), w_25)) else (bnd (digest_Expand K v_3 r_21.1 v_5 v_7 w_25) fun r_26 w_27 =>
  bnd (digest_Expand K v_3 r_21.1 v_5 (IntKind.i64.wrap (v_7 + more1)) w_27) fun r_28 w_29 =>
  (law01_num r_26.2.1).bind fun r_30 =>
  if (r_30.1 == 0) = true then ((law01_num r_28.2.1).bind fun r_31 =>
  if (r_31.1 == 0) = true then (if (((r_26.1.len : Nat) : Int) == v_7) = true then (if (((r_28.1.len : Nat) : Int) == (IntKind.i64.wrap (v_7 + more1))) = true then (if (0 : Int) ≤ v_7 ∧ v_7 ≤ ((r_28.1.cap : Nat) : Int) then (bnd (book_SameBytes K r_26.1 ⟨(sla r_28.1.a 0 r_28.1.cap 1), ((Int.toNat (v_7)) - 0), (r_28.1.cap - 0)⟩ w_29) fun r_32 w_33 =>
  some ((r_32.1, ()), w_33)) else none) else (some ((false, ()), w_29))) else (some ((false, ()), w_29))) else (some ((false, ()), w_29))) else (some ((false, ()), w_29)))))
theorem law01_DigestPrefixes_s0_ok (K : Nat) : StmtNOk prog [(1, .int .i64), (5, .int .i64), (6, .sl), (7, .sl), (8, .int .i64), (9, .int .i64)] [(61, .bool)] [(27, 62)] (fun x w => law01_DigestPrefixes_s0 K x.1 x.2.1 x.2.2.1 x.2.2.2.1 x.2.2.2.2.1 x.2.2.2.2.2.1 w) (cd (bodyOf f12) [1, 1, 1, 1, 1, 1, 0, 0]) :=
    mk_stmtN (O := tabL []) (root := (bodyOf f12)) (π := [1, 1, 1, 1, 1, 1, 0, 0]) (Li := [(1, .int .i64), (5, .int .i64), (6, .sl), (7, .sl), (8, .int .i64), (9, .int .i64)]) (Lo := [(61, .bool)]) (S := (fun x w => law01_DigestPrefixes_s0 K x.1 x.2.1 x.2.2.1 x.2.2.2.1 x.2.2.2.2.1 x.2.2.2.2.2.1 w)) (law01_DigestPrefixes_Eok K) (law01_DigestPrefixes_Rok K) rfl (Orc.nil _ _ _) (by kernel_rfl) (fun _ _ => by kernel_rfl)
noncomputable def law01_DigestPrefixes_s0_se (K : Nat) : SE := stmtN [(1, .int .i64), (5, .int .i64), (6, .sl), (7, .sl), (8, .int .i64), (9, .int .i64)] [(61, .bool)] [(27, 62)] (fun x w => law01_DigestPrefixes_s0 K x.1 x.2.1 x.2.2.1 x.2.2.2.1 x.2.2.2.2.1 x.2.2.2.2.2.1 w)
theorem law01_DigestPrefixes_s0_se_ok (K : Nat) (R : Rg) (h : subRB [(27, 62)] R = true) : (law01_DigestPrefixes_s0_se K).Ok prog R (cd (bodyOf f12) [1, 1, 1, 1, 1, 1, 0, 0]) := stmtN_ok (Li := [(1, .int .i64), (5, .int .i64), (6, .sl), (7, .sl), (8, .int .i64), (9, .int .i64)]) (Lo := [(61, .bool)]) (S := (fun x w => law01_DigestPrefixes_s0 K x.1 x.2.1 x.2.2.1 x.2.2.2.1 x.2.2.2.2.1 x.2.2.2.2.2.1 w)) (law01_DigestPrefixes_s0_ok K) (subR_of h)
theorem law01_DigestPrefixes_s1_ok (K : Nat) : StmtNOk prog [(1, .int .i64), (9, .int .i64), (10, .sl), (11, .int .i64), (12, .sl), (13, .int .i64)] [(111, .bool)] [(82, 112)] (fun x w => law01_DigestPrefixes_s1 K x.1 x.2.1 x.2.2.1 x.2.2.2.1 x.2.2.2.2.1 x.2.2.2.2.2.1 w) (cd (bodyOf f12) [1, 1, 1, 1, 1, 1, 1, 1, 1, 0, 0]) :=
    mk_stmtN (O := tabL []) (root := (bodyOf f12)) (π := [1, 1, 1, 1, 1, 1, 1, 1, 1, 0, 0]) (Li := [(1, .int .i64), (9, .int .i64), (10, .sl), (11, .int .i64), (12, .sl), (13, .int .i64)]) (Lo := [(111, .bool)]) (S := (fun x w => law01_DigestPrefixes_s1 K x.1 x.2.1 x.2.2.1 x.2.2.2.1 x.2.2.2.2.1 x.2.2.2.2.2.1 w)) (law01_DigestPrefixes_Eok K) (law01_DigestPrefixes_Rok K) rfl (Orc.nil _ _ _) (by kernel_rfl) (fun _ _ => by kernel_rfl)
noncomputable def law01_DigestPrefixes_s1_se (K : Nat) : SE := stmtN [(1, .int .i64), (9, .int .i64), (10, .sl), (11, .int .i64), (12, .sl), (13, .int .i64)] [(111, .bool)] [(82, 112)] (fun x w => law01_DigestPrefixes_s1 K x.1 x.2.1 x.2.2.1 x.2.2.2.1 x.2.2.2.2.1 x.2.2.2.2.2.1 w)
theorem law01_DigestPrefixes_s1_se_ok (K : Nat) (R : Rg) (h : subRB [(82, 112)] R = true) : (law01_DigestPrefixes_s1_se K).Ok prog R (cd (bodyOf f12) [1, 1, 1, 1, 1, 1, 1, 1, 1, 0, 0]) := stmtN_ok (Li := [(1, .int .i64), (9, .int .i64), (10, .sl), (11, .int .i64), (12, .sl), (13, .int .i64)]) (Lo := [(111, .bool)]) (S := (fun x w => law01_DigestPrefixes_s1 K x.1 x.2.1 x.2.2.1 x.2.2.2.1 x.2.2.2.2.1 x.2.2.2.2.2.1 w)) (law01_DigestPrefixes_s1_ok K) (subR_of h)
theorem law01_DigestPrefixes_s2_ok (K : Nat) : StmtNOk prog [(5, .int .i64), (11, .int .i64), (14, .sl)] [(128, .bool)] [(119, 129)] (fun x w => law01_DigestPrefixes_s2 K x.1 x.2.1 x.2.2.1 w) (cd (bodyOf f12) [1, 1, 1, 1, 1, 1, 1, 1, 1, 1, 1, 0, 0]) :=
    mk_stmtN (O := tabL []) (root := (bodyOf f12)) (π := [1, 1, 1, 1, 1, 1, 1, 1, 1, 1, 1, 0, 0]) (Li := [(5, .int .i64), (11, .int .i64), (14, .sl)]) (Lo := [(128, .bool)]) (S := (fun x w => law01_DigestPrefixes_s2 K x.1 x.2.1 x.2.2.1 w)) (law01_DigestPrefixes_Eok K) (law01_DigestPrefixes_Rok K) rfl (Orc.nil _ _ _) (by kernel_rfl) (fun _ _ => by kernel_rfl)
noncomputable def law01_DigestPrefixes_s2_se (K : Nat) : SE := stmtN [(5, .int .i64), (11, .int .i64), (14, .sl)] [(128, .bool)] [(119, 129)] (fun x w => law01_DigestPrefixes_s2 K x.1 x.2.1 x.2.2.1 w)
theorem law01_DigestPrefixes_s2_se_ok (K : Nat) (R : Rg) (h : subRB [(119, 129)] R = true) : (law01_DigestPrefixes_s2_se K).Ok prog R (cd (bodyOf f12) [1, 1, 1, 1, 1, 1, 1, 1, 1, 1, 1, 0, 0]) := stmtN_ok (Li := [(5, .int .i64), (11, .int .i64), (14, .sl)]) (Lo := [(128, .bool)]) (S := (fun x w => law01_DigestPrefixes_s2 K x.1 x.2.1 x.2.2.1 w)) (law01_DigestPrefixes_s2_ok K) (subR_of h)
theorem law01_DigestPrefixes_facts : FunFacts prog 12 f12 (bodyOf f12) [(0, .agg), (1, .int .i64)] [(0, 176)] := ⟨func12, by kernel_rfl, by kernel_rfl, by kernel_rfl, by kernel_rfl, by kernel_rfl⟩
theorem law01_DigestPrefixes_calls (K : Nat) (x : TT [(0, .agg), (1, .int .i64)]) (w : World) (y : TR [.bool]) (w2 : World) (h : law01_DigestPrefixes K x.1 x.2.1 w = some (y, w2)) : Calls prog 12 (encA [(0, .agg), (1, .int .i64)] x).toArray w (fun e w3 => e = .returned (resV (encR [.bool] y)) ∧ w3 = w2) :=
    mk_fun (O := tabL [([1, 1, 1, 1, 1, 1, 0, 0], law01_DigestPrefixes_s0_se K), ([1, 1, 1, 1, 1, 1, 1, 1, 1, 0, 0], law01_DigestPrefixes_s1_se K), ([1, 1, 1, 1, 1, 1, 1, 1, 1, 1, 1, 0, 0], law01_DigestPrefixes_s2_se K)]) (Lp := [(0, .agg), (1, .int .i64)]) (Rt := [.bool]) (S := (fun x w => law01_DigestPrefixes K x.1 x.2.1 w)) (law01_DigestPrefixes_Eok K) (law01_DigestPrefixes_Rok K) rfl law01_DigestPrefixes_facts (Orc.cons (by kernel_rfl) (law01_DigestPrefixes_s0_se_ok K [(0, 176)] (by kernel_rfl)) (Orc.cons (by kernel_rfl) (law01_DigestPrefixes_s1_se_ok K [(0, 176)] (by kernel_rfl)) (Orc.cons (by kernel_rfl) (law01_DigestPrefixes_s2_se_ok K [(0, 176)] (by kernel_rfl)) (Orc.nil _ _ _)))) (fun _ _ => by kernel_rfl) x w y w2 h
noncomputable def law01_DigestPrefixes_ce (K : Nat) : CE := funE [(0, .agg), (1, .int .i64)] [.bool] (fun x w => law01_DigestPrefixes K x.1 x.2.1 w)
theorem law01_DigestPrefixes_ok (K : Nat) : (law01_DigestPrefixes_ce K).Ok prog 12 := funE_ok (Rt := [.bool]) (S := (fun x w => law01_DigestPrefixes K x.1 x.2.1 w)) law01_DigestPrefixes_facts fun x w y w2 h => law01_DigestPrefixes_calls K x w y w2 h

noncomputable def digest_Stream_Hash_R : List (Nat × RE) := []
theorem digest_Stream_Hash_Rok : REnv.Ok prog (tab (digest_Stream_Hash_R)) := (REnv.nil _)
/-- (*coffer/digest.Stream).Hash -/
noncomputable def digest_Stream_Hash (s0 : Option Addr) (w : World) : Option (Int × Unit) :=
  if s0.isNone = true then (some (0, ())) else ((s0).bind fun p_1 =>
  (ldI .i64 ((p_1.add 0).add 4) w).bind fun v_2 =>
  some (v_2, ()))
theorem digest_Stream_Hash_facts : FunFacts prog 54 f54 (bodyOf f54) [(0, .ptr)] [(0, 10)] := ⟨func54, by kernel_rfl, by kernel_rfl, by kernel_rfl, by kernel_rfl, by kernel_rfl⟩
theorem digest_Stream_Hash_calls (x : TT [(0, .ptr)]) (w : World) (y : TR [.int .i64]) (h : digest_Stream_Hash x.1 w = some y) : Calls prog 54 (encA [(0, .ptr)] x).toArray w (fun e w3 => e = .returned (resV (encR [.int .i64] y)) ∧ w3 = w) :=
    mk_funQ (O := tabL []) (Lp := [(0, .ptr)]) (Rt := [.int .i64]) (S := (fun x w => digest_Stream_Hash x.1 w)) (digest_Stream_Hash_Rok) digest_Stream_Hash_facts (OrcQ.nil _ _ _) (fun _ _ => by kernel_rfl) x w y h
noncomputable def digest_Stream_Hash_re : RE := funR [(0, .ptr)] [.int .i64] (fun x w => digest_Stream_Hash x.1 w)
theorem digest_Stream_Hash_ok : (digest_Stream_Hash_re).Ok prog 54 := funR_ok (Rt := [.int .i64]) (S := (fun x w => digest_Stream_Hash x.1 w)) digest_Stream_Hash_facts fun x w y h => digest_Stream_Hash_calls x w y h

noncomputable def digest_Stream_Size_R : List (Nat × RE) := []
theorem digest_Stream_Size_Rok : REnv.Ok prog (tab (digest_Stream_Size_R)) := (REnv.nil _)
/-- (*coffer/digest.Stream).Size -/
noncomputable def digest_Stream_Size (s0 : Option Addr) (w : World) : Option (Int × Unit) :=
  if s0.isNone = true then (some (0, ())) else ((s0).bind fun p_1 =>
  (ldI .i64 (((p_1.add 0).add 0).add 0) w).bind fun v_2 =>
  some (v_2, ()))
theorem digest_Stream_Size_facts : FunFacts prog 55 f55 (bodyOf f55) [(0, .ptr)] [(0, 11)] := ⟨func55, by kernel_rfl, by kernel_rfl, by kernel_rfl, by kernel_rfl, by kernel_rfl⟩
theorem digest_Stream_Size_calls (x : TT [(0, .ptr)]) (w : World) (y : TR [.int .i64]) (h : digest_Stream_Size x.1 w = some y) : Calls prog 55 (encA [(0, .ptr)] x).toArray w (fun e w3 => e = .returned (resV (encR [.int .i64] y)) ∧ w3 = w) :=
    mk_funQ (O := tabL []) (Lp := [(0, .ptr)]) (Rt := [.int .i64]) (S := (fun x w => digest_Stream_Size x.1 w)) (digest_Stream_Size_Rok) digest_Stream_Size_facts (OrcQ.nil _ _ _) (fun _ _ => by kernel_rfl) x w y h
noncomputable def digest_Stream_Size_re : RE := funR [(0, .ptr)] [.int .i64] (fun x w => digest_Stream_Size x.1 w)
theorem digest_Stream_Size_ok : (digest_Stream_Size_re).Ok prog 55 := funR_ok (Rt := [.int .i64]) (S := (fun x w => digest_Stream_Size x.1 w)) digest_Stream_Size_facts fun x w y h => digest_Stream_Size_calls x w y h

end Go.Sh
