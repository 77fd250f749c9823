/- What functions of the program do, as Lean functions; that the machine does just that. Printed by shal.py, a program of this claim's writer. -/
import Derived.Test.YtgmdbhckccmhjaaSh0
set_option maxRecDepth 100000
set_option linter.unusedVariables false
namespace Go.Sh
open Go.Fw Go.Proofs.Try

noncomputable def ref01_Base64_E (K : Nat) : List (Nat × CE) := []
theorem ref01_Base64_Eok (K : Nat) : Env.Ok prog (tab (ref01_Base64_E K)) := (Env.nil _)
noncomputable def ref01_Base64_R (K : Nat) : List (Nat × RE) := [(26, ref01_at_re), (27, ref01_letter_re)]
theorem ref01_Base64_Rok (K : Nat) : REnv.Ok prog (tab (ref01_Base64_R K)) := (REnv.cons (ref01_at_ok) (REnv.cons (ref01_letter_ok) (REnv.nil _)))
noncomputable def ref01_Base64_l0_b (K : Nat) (rec : Sl → Sl → Int → World → Option ((Sl × Unit) × World)) (a0 : Sl) (a3 : Sl) (a4 : Int) (w : World) : Option ((Sl × Unit) × World) :=
  if (decide (a4 < ((a0.len : Nat) : Int))) = true then ((ref01_at a0 a4 w).bind fun r_1 =>
  (ref01_at a0 (IntKind.i64.wrap (a4 + 1)) w).bind fun r_2 =>
  (ref01_at a0 (IntKind.i64.wrap (a4 + 2)) w).bind fun r_3 =>
  (ref01_letter (IntKind.i64.wrap ((IntKind.i64.wrap ((IntKind.i64.wrap ((IntKind.i64.wrap (r_1.1 * 65536)) + (IntKind.i64.wrap (r_2.1 * 256)))) + r_3.1)).tdiv 262144))).bind fun r_4 =>
  (ref01_letter ((IntKind.i64.wrap ((IntKind.i64.wrap ((IntKind.i64.wrap ((IntKind.i64.wrap (r_1.1 * 65536)) + (IntKind.i64.wrap (r_2.1 * 256)))) + r_3.1)).tdiv 4096)).tmod 64)).bind fun r_5 =>
  bnd (bldS prog 25 2 #[(0, (.int .u8 r_4.1)), (1, (.int .u8 r_5.1))] w) fun s_6 w_7 =>
  bnd (apd prog 25 25 (.slice a3.a a3.len a3.cap) (.slice s_6.a s_6.len s_6.cap) w_7) fun s_8 w_9 =>
  if (decide ((IntKind.i64.wrap (a4 + 1)) < ((a0.len : Nat) : Int))) = true then ((ref01_letter ((IntKind.i64.wrap ((IntKind.i64.wrap ((IntKind.i64.wrap ((IntKind.i64.wrap (r_1.1 * 65536)) + (IntKind.i64.wrap (r_2.1 * 256)))) + r_3.1)).tdiv 64)).tmod 64)).bind fun r_10 =>
  bnd (bldS prog 25 1 #[(0, (.int .u8 r_10.1))] w_9) fun s_11 w_12 =>
  bnd (apd prog 25 25 (.slice s_8.a s_8.len s_8.cap) (.slice s_11.a s_11.len s_11.cap) w_12) fun s_13 w_14 =>
  if (decide ((IntKind.i64.wrap (a4 + 2)) < ((a0.len : Nat) : Int))) = true then ((ref01_letter ((IntKind.i64.wrap ((IntKind.i64.wrap ((IntKind.i64.wrap (r_1.1 * 65536)) + (IntKind.i64.wrap (r_2.1 * 256)))) + r_3.1)).tmod 64)).bind fun r_15 =>
  bnd (bldS prog 25 1 #[(0, (.int .u8 r_15.1))] w_14) fun s_16 w_17 =>
  bnd (apd prog 25 25 (.slice s_13.a s_13.len s_13.cap) (.slice s_16.a s_16.len s_16.cap) w_17) fun s_18 w_19 =>
  rec a0 s_18 (IntKind.i64.wrap (a4 + 3)) w_19) else (bnd (bldS prog 25 1 #[(0, (.int .u8 61))] w_14) fun s_20 w_21 =>
  bnd (apd prog 25 25 (.slice s_13.a s_13.len s_13.cap) (.slice s_20.a s_20.len s_20.cap) w_21) fun s_22 w_23 =>
  rec a0 s_22 (IntKind.i64.wrap (a4 + 3)) w_23)) else (bnd (bldS prog 25 1 #[(0, (.int .u8 61))] w_9) fun s_24 w_25 =>
  bnd (apd prog 25 25 (.slice s_8.a s_8.len s_8.cap) (.slice s_24.a s_24.len s_24.cap) w_25) fun s_26 w_27 =>
  if (decide ((IntKind.i64.wrap (a4 + 2)) < ((a0.len : Nat) : Int))) = true then ((ref01_letter ((IntKind.i64.wrap ((IntKind.i64.wrap ((IntKind.i64.wrap (r_1.1 * 65536)) + (IntKind.i64.wrap (r_2.1 * 256)))) + r_3.1)).tmod 64)).bind fun r_28 =>
  bnd (bldS prog 25 1 #[(0, (.int .u8 r_28.1))] w_27) fun s_29 w_30 =>
  bnd (apd prog 25 25 (.slice s_26.a s_26.len s_26.cap) (.slice s_29.a s_29.len s_29.cap) w_30) fun s_31 w_32 =>
  rec a0 s_31 (IntKind.i64.wrap (a4 + 3)) w_32) else (bnd (bldS prog 25 1 #[(0, (.int .u8 61))] w_27) fun s_33 w_34 =>
  bnd (apd prog 25 25 (.slice s_26.a s_26.len s_26.cap) (.slice s_33.a s_33.len s_33.cap) w_34) fun s_35 w_36 =>
  rec a0 s_35 (IntKind.i64.wrap (a4 + 3)) w_36))) else (some ((a3, ()), w))
noncomputable def ref01_Base64_l0 (K : Nat) (n : Nat) : Sl → Sl → Int → World → Option ((Sl × Unit) × World) := iter (fun _ _ _ _ => none) (ref01_Base64_l0_b K) n
/-- coffer/cofferref01.Base64 -/
noncomputable def ref01_Base64 (K : Nat) (a0 : Sl) (w : World) : Option ((ByteArray × Unit) × World) :=
  if (decide (((a0.len : Nat) : Int) > 12582912)) = true then (some ((str0, ()), w)) else (bnd (ref01_Base64_l0 K K a0 ⟨none, 0, 0⟩ 0 w) fun y_37 w_38 =>
  bnd (b2s prog y_37.1.a y_37.1.len y_37.1.cap w_38) fun c_39 w_40 =>
  some ((c_39, ()), w_40))
theorem ref01_Base64_l0_ok (K : Nat) (n : Nat) : StmtNOk prog [(0, .sl), (3, .sl), (4, .int .i64)] [(3, .sl)] [(3, 6), (9, 69)] ((fun n x w => ref01_Base64_l0 K n x.1 x.2.1 x.2.2.1 w) n) (.block 0 (.loop (cd (bodyOf f18) [1, 1, 1, 0, 1, 0, 0]))) :=
    mk_loopN (O := tabL []) (root := (bodyOf f18)) (π := [1, 1, 1, 0, 1, 0, 0]) (id := 0) (Li := [(0, .sl), (3, .sl), (4, .int .i64)]) (Lo := [(3, .sl)]) (S := (fun n x w => ref01_Base64_l0 K n x.1 x.2.1 x.2.2.1 w)) (body := cd (bodyOf f18) [1, 1, 1, 0, 1, 0, 0]) (ref01_Base64_Eok K) (ref01_Base64_Rok K) rfl (Orc.nil _ _ _) (by kernel_rfl) (fun _ _ => by kernel_rfl) (fun _ _ _ => by kernel_rfl) n
noncomputable def ref01_Base64_l0_se (K : Nat) : SE := stmtN [(0, .sl), (3, .sl), (4, .int .i64)] [(3, .sl)] [(3, 6), (9, 69)] (fun x w => ref01_Base64_l0 K K x.1 x.2.1 x.2.2.1 w)
theorem ref01_Base64_l0_se_ok (K : Nat) (R : Rg) (h : subRB [(3, 6), (9, 69)] R = true) : (ref01_Base64_l0_se K).Ok prog R (.block 0 (.loop (cd (bodyOf f18) [1, 1, 1, 0, 1, 0, 0]))) := stmtN_ok (Li := [(0, .sl), (3, .sl), (4, .int .i64)]) (Lo := [(3, .sl)]) (S := (fun x w => ref01_Base64_l0 K K x.1 x.2.1 x.2.2.1 w)) (ref01_Base64_l0_ok K K) (subR_of h)
theorem ref01_Base64_facts : FunFacts prog 18 f18 (bodyOf f18) [(0, .sl)] [(0, 71)] := ⟨func18, by kernel_rfl, by kernel_rfl, by kernel_rfl, by kernel_rfl, by kernel_rfl⟩
theorem ref01_Base64_calls (K : Nat) (x : TT [(0, .sl)]) (w : World) (y : TR [.str]) (w2 : World) (h : ref01_Base64 K x.1 w = some (y, w2)) : Calls prog 18 (encA [(0, .sl)] x).toArray w (fun e w3 => e = .returned (resV (encR [.str] y)) ∧ w3 = w2) :=
    mk_fun (O := tabL [([1, 1, 1, 0, 1], ref01_Base64_l0_se K)]) (Lp := [(0, .sl)]) (Rt := [.str]) (S := (fun x w => ref01_Base64 K x.1 w)) (ref01_Base64_Eok K) (ref01_Base64_Rok K) rfl ref01_Base64_facts (Orc.cons (by kernel_rfl) (ref01_Base64_l0_se_ok K [(0, 71)] (by kernel_rfl)) (Orc.nil _ _ _)) (fun _ _ => by kernel_rfl) x w y w2 h
noncomputable def ref01_Base64_ce (K : Nat) : CE := funE [(0, .sl)] [.str] (fun x w => ref01_Base64 K x.1 w)
theorem ref01_Base64_ok (K : Nat) : (ref01_Base64_ce K).Ok prog 18 := funE_ok (Rt := [.str]) (S := (fun x w => ref01_Base64 K x.1 w)) ref01_Base64_facts fun x w y w2 h => ref01_Base64_calls K x w y w2 h

noncomputable def law01_DigestNames_R : List (Nat × RE) := [(7, law01_num_re)]
theorem law01_DigestNames_Rok : REnv.Ok prog (tab (law01_DigestNames_R)) := (REnv.cons (law01_num_ok) (REnv.nil _))
/-- coffer/cofferlaw01.DigestNames -/
noncomputable def law01_DigestNames  : Option (Bool × Unit) :=
  (law01_num 10).bind fun r_1 =>
  if (r_1.1 == 10) = true then ((law01_num 11).bind fun r_2 =>
  if (r_2.1 == 11) = true then ((law01_num 12).bind fun r_3 =>
  if (r_3.1 == 12) = true then ((law01_num 13).bind fun r_4 =>
  if (r_4.1 == 13) = true then ((law01_num 14).bind fun r_5 =>
  if (r_5.1 == 14) = true then ((law01_num 15).bind fun r_6 =>
  some ((r_6.1 == 15), ())) else (some (false, ()))) else (some (false, ()))) else (some (false, ()))) else (some (false, ()))) else (some (false, ()))
theorem law01_DigestNames_facts : FunFacts prog 3 f3 (bodyOf f3) [] [(0, 25)] := ⟨func3, by kernel_rfl, by kernel_rfl, by kernel_rfl, by kernel_rfl, by kernel_rfl⟩
theorem law01_DigestNames_calls (x : TT []) (w : World) (y : TR [.bool]) (h : law01_DigestNames  = some y) : Calls prog 3 (encA [] x).toArray w (fun e w3 => e = .returned (resV (encR [.bool] y)) ∧ w3 = w) :=
    mk_funQ (O := tabL []) (Lp := []) (Rt := [.bool]) (S := (fun x w => law01_DigestNames )) (law01_DigestNames_Rok) law01_DigestNames_facts (OrcQ.nil _ _ _) (fun _ _ => by kernel_rfl) x w y h
noncomputable def law01_DigestNames_re : RE := funR [] [.bool] (fun x w => law01_DigestNames )
theorem law01_DigestNames_ok : (law01_DigestNames_re).Ok prog 3 := funR_ok (Rt := [.bool]) (S := (fun x w => law01_DigestNames )) law01_DigestNames_facts fun x w y h => law01_DigestNames_calls x w y h

noncomputable def law01_DigestEquals_E (K : Nat) : List (Nat × CE) := [(8, book_Bytes_ce K), (9, book_SameBytes_ce K), (10, digest_Equal_ce K), (11, book_WholeBytes_ce K)]
theorem law01_DigestEquals_Eok (K : Nat) : Env.Ok prog (tab (law01_DigestEquals_E K)) := (Env.cons (book_Bytes_ok K) (Env.cons (book_SameBytes_ok K) (Env.cons (digest_Equal_ok K) (Env.cons (book_WholeBytes_ok K) (Env.nil _)))))
noncomputable def law01_DigestEquals_R (K : Nat) : List (Nat × RE) := []
theorem law01_DigestEquals_Rok (K : Nat) : REnv.Ok prog (tab (law01_DigestEquals_R K)) := (REnv.nil _)
/-- coffer/cofferlaw01.DigestEquals -/
noncomputable def law01_DigestEquals (K : Nat) (a0 : Sl) (b1 : Sl) (w : World) : Option ((Bool × Unit) × World) :=
  bnd (book_Bytes K a0 w) fun r_1 w_2 =>
  bnd (book_Bytes K b1 w_2) fun r_3 w_4 =>
  bnd (book_SameBytes K a0 b1 w_4) fun r_5 w_6 =>
  bnd (digest_Equal K r_1.1 r_3.1 w_6) fun r_7 w_8 =>
  if (r_7.1 == r_5.1) = true then (bnd (digest_Equal K r_3.1 r_1.1 w_8) fun r_9 w_10 =>
  if (r_9.1 == r_5.1) = true then (bnd (digest_Equal K r_1.1 a0 w_10) fun r_11 w_12 =>
  if r_11.1 = true then (bnd (book_WholeBytes K r_1.1 a0 w_12) fun r_13 w_14 =>
  if r_13.1 = true then (bnd (book_WholeBytes K r_3.1 b1 w_14) fun r_15 w_16 =>
  some ((r_15.1, ()), w_16)) else (some ((false, ()), w_14))) else (some ((false, ()), w_12))) else (some ((false, ()), w_10))) else (some ((false, ()), w_8))
theorem law01_DigestEquals_facts : FunFacts prog 4 f4 (bodyOf f4) [(0, .sl), (1, .sl)] [(0, 42)] := ⟨func4, by kernel_rfl, by kernel_rfl, by kernel_rfl, by kernel_rfl, by kernel_rfl⟩
theorem law01_DigestEquals_calls (K : Nat) (x : TT [(0, .sl), (1, .sl)]) (w : World) (y : TR [.bool]) (w2 : World) (h : law01_DigestEquals K x.1 x.2.1 w = some (y, w2)) : Calls prog 4 (encA [(0, .sl), (1, .sl)] x).toArray w (fun e w3 => e = .returned (resV (encR [.bool] y)) ∧ w3 = w2) :=
    mk_fun (O := tabL []) (Lp := [(0, .sl), (1, .sl)]) (Rt := [.bool]) (S := (fun x w => law01_DigestEquals K x.1 x.2.1 w)) (law01_DigestEquals_Eok K) (law01_DigestEquals_Rok K) rfl law01_DigestEquals_facts (Orc.nil _ _ _) (fun _ _ => by kernel_rfl) x w y w2 h
noncomputable def law01_DigestEquals_ce (K : Nat) : CE := funE [(0, .sl), (1, .sl)] [.bool] (fun x w => law01_DigestEquals K x.1 x.2.1 w)
theorem law01_DigestEquals_ok (K : Nat) : (law01_DigestEquals_ce K).Ok prog 4 := funE_ok (Rt := [.bool]) (S := (fun x w => law01_DigestEquals K x.1 x.2.1 w)) law01_DigestEquals_facts fun x w y w2 h => law01_DigestEquals_calls K x w y w2 h

end Go.Sh
