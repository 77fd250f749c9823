/- What functions of the program do, as Lean functions; that the machine does just that. Printed by shal.py, a program of this claim's writer. -/
import Derived.Test.YtgmdbhckccmhjaaDoorFwH
import Derived.Test.YtgmdbhckccmhjaaDoorProg
set_option maxRecDepth 100000
set_option linter.unusedVariables false
namespace Go.Sh
open Go.Fw Go.Proofs.Tryd
def z77 : Array Value := (List.replicate 3 (.int .i64 0) ++ [.nilFunc] : List Value).toArray
def z80 : Array Value := Array.replicate 8 (.int .u64 0)
def z85 : Array Value := Array.replicate 128 (.int .u8 0)
def z87 : Array Value := (List.replicate 3 (.int .i64 0) ++ [.nilFunc] ++ [.int .i64 0] ++ List.replicate 9 (.int .u64 0) ++ List.replicate 128 (.int .u8 0) : List Value).toArray
def z89 : Array Value := (List.replicate 3 (.int .i64 0) ++ [.nilFunc] ++ [.int .i64 0] ++ List.replicate 9 (.int .u64 0) ++ List.replicate 128 (.int .u8 0) ++ List.replicate 3 (.int .i64 0) ++ [.nilFunc] ++ [.int .i64 0] ++ List.replicate 9 (.int .u64 0) ++ List.replicate 128 (.int .u8 0) : List Value).toArray
def z99 : Array Value := (List.replicate 3 (.int .i64 0) ++ [.nilFunc] ++ [.int .i64 0] ++ List.replicate 9 (.int .u64 0) ++ List.replicate 128 (.int .u8 0) : List Value).toArray
def z101 : Array Value := (List.replicate 3 (.int .i64 0) ++ [.nilFunc] ++ [.int .i64 0] ++ List.replicate 9 (.int .u64 0) ++ List.replicate 128 (.int .u8 0) ++ List.replicate 3 (.int .i64 0) ++ [.nilFunc] ++ [.int .i64 0] ++ List.replicate 9 (.int .u64 0) ++ List.replicate 128 (.int .u8 0) ++ List.replicate 3 (.int .i64 0) ++ [.nilFunc] ++ [.int .i64 0] ++ List.replicate 9 (.int .u64 0) ++ List.replicate 128 (.int .u8 0) ++ List.replicate 3 (.int .i64 0) ++ [.nilFunc] ++ [.int .i64 0] ++ List.replicate 9 (.int .u64 0) ++ List.replicate 128 (.int .u8 0) : List Value).toArray
def z114 : Array Value := ([.int .i64 0] ++ [.bool false] ++ List.replicate 2 (.slice none 0 0) : List Value).toArray
def z124 : Array Value := Array.replicate 64 (.int .u32 0)
def z125 : Array Value := Array.replicate 80 (.int .u64 0)
def z126 : Array Value := Array.replicate 8 (.int .u32 0)
def z132 : Array Value := Array.replicate 256 (.int .u8 0)

noncomputable def digest_kindOf_E : List (Nat × CE) := []
theorem digest_kindOf_Eok : Env.Ok prog (tab (digest_kindOf_E)) := (Env.nil _)
noncomputable def digest_kindOf_R : List (Nat × RE) := []
theorem digest_kindOf_Rok : REnv.Ok prog (tab (digest_kindOf_R)) := (REnv.nil _)
noncomputable def digest_kindOf_s0 (a4 : Int) (a5 : Bool) (w : World) : Option ((Bool × Unit) × World) :=
  if a5 = true then (some ((true, ()), w)) else (some (((a4 == 256), ()), w))
noncomputable def digest_kindOf_s1 (a4 : Int) (a11 : Bool) (w : World) : Option ((Bool × Unit) × World) :=
  if a11 = true then (some ((true, ()), w)) else (some (((a4 == 512), ()), w))
/-- coffer/digest.kindOf -/
noncomputable def digest_kindOf (hash0 : Int) (w : World) : Option (((Array Value) × Bool × Unit) × World) :=
  bnd (newB z77 77 w) fun p_1 w_2 =>
  bnd (digest_kindOf_s0 hash0 (hash0 == 224) w_2) fun y_3 w_4 =>
  if y_3.1 = true then ((prog.built 77 [(0, (.int .i64 (IntKind.i64.wrap (Int.tdiv hash0 8)))), (1, (.int .i64 64)), (2, (.int .i64 4)), (3, (.func (.func 80) #[] #[]))]).bind fun cs_5 =>
  if (cs_5).size = 4 then ((stA p_1 cs_5 w_4).bind fun w_6 =>
  (ldA 4 p_1 w_6).bind fun res_7 =>
  some ((res_7, true, ()), w_6)) else none) else (bnd (digest_kindOf_s1 hash0 (hash0 == 384) w_4) fun y_8 w_9 =>
  if y_8.1 = true then ((prog.built 77 [(0, (.int .i64 (IntKind.i64.wrap (Int.tdiv hash0 8)))), (1, (.int .i64 128)), (2, (.int .i64 8)), (3, (.func (.func 81) #[] #[]))]).bind fun cs_10 =>
  if (cs_10).size = 4 then ((stA p_1 cs_10 w_9).bind fun w_11 =>
  (ldA 4 p_1 w_11).bind fun res_12 =>
  some ((res_12, true, ()), w_11)) else none) else ((prog.built 77 []).bind fun cs_13 =>
  if (cs_13).size = 4 then ((stA p_1 cs_13 w_9).bind fun w_14 =>
  (ldA 4 p_1 w_14).bind fun res_15 =>
  some ((res_15, false, ()), w_14)) else none))
theorem digest_kindOf_s0_ok : StmtNOk prog [(4, .int .i64), (5, .bool)] [(5, .bool)] [(5, 6), (7, 8)] (fun x w => digest_kindOf_s0 x.1 x.2.1 w) (cd (bodyOf f61) [1, 0, 1, 0, 0, 1]) :=
    mk_stmtN (O := tabL []) (root := (bodyOf f61)) (π := [1, 0, 1, 0, 0, 1]) (Li := [(4, .int .i64), (5, .bool)]) (Lo := [(5, .bool)]) (S := (fun x w => digest_kindOf_s0 x.1 x.2.1 w)) (digest_kindOf_Eok) (digest_kindOf_Rok) rfl (Orc.nil _ _ _) (by kernel_rfl) (fun _ _ => by kernel_rfl)
noncomputable def digest_kindOf_s0_se : SE := stmtN [(4, .int .i64), (5, .bool)] [(5, .bool)] [(5, 6), (7, 8)] (fun x w => digest_kindOf_s0 x.1 x.2.1 w)
theorem digest_kindOf_s0_se_ok (R : Rg) (h : subRB [(5, 6), (7, 8)] R = true) : (digest_kindOf_s0_se).Ok prog R (cd (bodyOf f61) [1, 0, 1, 0, 0, 1]) := stmtN_ok (Li := [(4, .int .i64), (5, .bool)]) (Lo := [(5, .bool)]) (S := (fun x w => digest_kindOf_s0 x.1 x.2.1 w)) (digest_kindOf_s0_ok) (subR_of h)
theorem digest_kindOf_s1_ok : StmtNOk prog [(4, .int .i64), (11, .bool)] [(11, .bool)] [(11, 12), (13, 14)] (fun x w => digest_kindOf_s1 x.1 x.2.1 w) (cd (bodyOf f61) [1, 0, 1, 0, 1, 1, 0, 1]) :=
    mk_stmtN (O := tabL []) (root := (bodyOf f61)) (π := [1, 0, 1, 0, 1, 1, 0, 1]) (Li := [(4, .int .i64), (11, .bool)]) (Lo := [(11, .bool)]) (S := (fun x w => digest_kindOf_s1 x.1 x.2.1 w)) (digest_kindOf_Eok) (digest_kindOf_Rok) rfl (Orc.nil _ _ _) (by kernel_rfl) (fun _ _ => by kernel_rfl)
noncomputable def digest_kindOf_s1_se : SE := stmtN [(4, .int .i64), (11, .bool)] [(11, .bool)] [(11, 12), (13, 14)] (fun x w => digest_kindOf_s1 x.1 x.2.1 w)
theorem digest_kindOf_s1_se_ok (R : Rg) (h : subRB [(11, 12), (13, 14)] R = true) : (digest_kindOf_s1_se).Ok prog R (cd (bodyOf f61) [1, 0, 1, 0, 1, 1, 0, 1]) := stmtN_ok (Li := [(4, .int .i64), (11, .bool)]) (Lo := [(11, .bool)]) (S := (fun x w => digest_kindOf_s1 x.1 x.2.1 w)) (digest_kindOf_s1_ok) (subR_of h)
theorem digest_kindOf_facts : FunFacts prog 61 f61 (bodyOf f61) [(0, .int .i64)] [(0, 18)] := ⟨func61, by kernel_rfl, by kernel_rfl, by kernel_rfl, by kernel_rfl, by kernel_rfl⟩
theorem digest_kindOf_calls (x : TT [(0, .int .i64)]) (w : World) (y : TR [.agg, .bool]) (w2 : World) (h : digest_kindOf x.1 w = some (y, w2)) : Calls prog 61 (encA [(0, .int .i64)] x).toArray w (fun e w3 => e = .returned (resV (encR [.agg, .bool] y)) ∧ w3 = w2) :=
    mk_fun (O := tabL [([1, 0, 1, 0, 0, 1], digest_kindOf_s0_se), ([1, 0, 1, 0, 1, 1, 0, 1], digest_kindOf_s1_se)]) (Lp := [(0, .int .i64)]) (Rt := [.agg, .bool]) (S := (fun x w => digest_kindOf x.1 w)) (digest_kindOf_Eok) (digest_kindOf_Rok) rfl digest_kindOf_facts (Orc.cons (by kernel_rfl) (digest_kindOf_s0_se_ok [(0, 18)] (by kernel_rfl)) (Orc.cons (by kernel_rfl) (digest_kindOf_s1_se_ok [(0, 18)] (by kernel_rfl)) (Orc.nil _ _ _))) (fun _ _ => by kernel_rfl) x w y w2 h
noncomputable def digest_kindOf_ce : CE := funE [(0, .int .i64)] [.agg, .bool] (fun x w => digest_kindOf x.1 w)
theorem digest_kindOf_ok : (digest_kindOf_ce).Ok prog 61 := funE_ok (Rt := [.agg, .bool]) (S := (fun x w => digest_kindOf x.1 w)) digest_kindOf_facts fun x w y w2 h => digest_kindOf_calls x w y w2 h

noncomputable def digest_Size_E : List (Nat × CE) := [(61, digest_kindOf_ce)]
theorem digest_Size_Eok : Env.Ok prog (tab (digest_Size_E)) := (Env.cons (digest_kindOf_ok) (Env.nil _))
noncomputable def digest_Size_R : List (Nat × RE) := []
theorem digest_Size_Rok : REnv.Ok prog (tab (digest_Size_R)) := (REnv.nil _)
/-- coffer/digest.Size -/
noncomputable def digest_Size (hash0 : Int) (w : World) : Option ((Int × Unit) × World) :=
  bnd (digest_kindOf hash0 w) fun r_1 w_2 =>
  bnd (newB z77 77 w_2) fun k_3 w_4 =>
  if (r_1.1).size = 4 then ((stA k_3 r_1.1 w_4).bind fun w_5 =>
  (ldI .i64 (k_3.add 0) w_5).bind fun v_6 =>
  some ((v_6, ()), w_5)) else none
theorem digest_Size_facts : FunFacts prog 18 f18 (bodyOf f18) [(0, .int .i64)] [(0, 12)] := ⟨func18, by kernel_rfl, by kernel_rfl, by kernel_rfl, by kernel_rfl, by kernel_rfl⟩
theorem digest_Size_calls (x : TT [(0, .int .i64)]) (w : World) (y : TR [.int .i64]) (w2 : World) (h : digest_Size x.1 w = some (y, w2)) : Calls prog 18 (encA [(0, .int .i64)] x).toArray w (fun e w3 => e = .returned (resV (encR [.int .i64] y)) ∧ w3 = w2) :=
    mk_fun (O := tabL []) (Lp := [(0, .int .i64)]) (Rt := [.int .i64]) (S := (fun x w => digest_Size x.1 w)) (digest_Size_Eok) (digest_Size_Rok) rfl digest_Size_facts (Orc.nil _ _ _) (fun _ _ => by kernel_rfl) x w y w2 h
noncomputable def digest_Size_ce : CE := funE [(0, .int .i64)] [.int .i64] (fun x w => digest_Size x.1 w)
theorem digest_Size_ok : (digest_Size_ce).Ok prog 18 := funE_ok (Rt := [.int .i64]) (S := (fun x w => digest_Size x.1 w)) digest_Size_facts fun x w y w2 h => digest_Size_calls x w y w2 h

noncomputable def ref01_Size_R : List (Nat × RE) := []
theorem ref01_Size_Rok : REnv.Ok prog (tab (ref01_Size_R)) := (REnv.nil _)
/-- coffer/cofferref01.Size -/
noncomputable def ref01_Size (hash0 : Int) : Option (Int × Unit) :=
  if (hash0 == 224) = true then (some ((IntKind.i64.wrap (Int.tdiv hash0 8)), ())) else (if (hash0 == 256) = true then (some ((IntKind.i64.wrap (Int.tdiv hash0 8)), ())) else (if (hash0 == 384) = true then (some ((IntKind.i64.wrap (Int.tdiv hash0 8)), ())) else (if (hash0 == 512) = true then (some ((IntKind.i64.wrap (Int.tdiv hash0 8)), ())) else (some (0, ())))))
theorem ref01_Size_facts : FunFacts prog 19 f19 (bodyOf f19) [(0, .int .i64)] [(0, 11)] := ⟨func19, by kernel_rfl, by kernel_rfl, by kernel_rfl, by kernel_rfl, by kernel_rfl⟩
theorem ref01_Size_calls (x : TT [(0, .int .i64)]) (w : World) (y : TR [.int .i64]) (h : ref01_Size x.1 = some y) : Calls prog 19 (encA [(0, .int .i64)] x).toArray w (fun e w3 => e = .returned (resV (encR [.int .i64] y)) ∧ w3 = w) :=
    mk_funQ (O := tabL []) (Lp := [(0, .int .i64)]) (Rt := [.int .i64]) (S := (fun x w => ref01_Size x.1)) (ref01_Size_Rok) ref01_Size_facts (OrcQ.nil _ _ _) (fun _ _ => by kernel_rfl) x w y h
noncomputable def ref01_Size_re : RE := funR [(0, .int .i64)] [.int .i64] (fun x w => ref01_Size x.1)
theorem ref01_Size_ok : (ref01_Size_re).Ok prog 19 := funR_ok (Rt := [.int .i64]) (S := (fun x w => ref01_Size x.1)) ref01_Size_facts fun x w y h => ref01_Size_calls x w y h

noncomputable def digest_Block_E : List (Nat × CE) := [(61, digest_kindOf_ce)]
theorem digest_Block_Eok : Env.Ok prog (tab (digest_Block_E)) := (Env.cons (digest_kindOf_ok) (Env.nil _))
noncomputable def digest_Block_R : List (Nat × RE) := []
theorem digest_Block_Rok : REnv.Ok prog (tab (digest_Block_R)) := (REnv.nil _)
/-- coffer/digest.Block -/
noncomputable def digest_Block (hash0 : Int) (w : World) : Option ((Int × Unit) × World) :=
  bnd (digest_kindOf hash0 w) fun r_1 w_2 =>
  bnd (newB z77 77 w_2) fun k_3 w_4 =>
  if (r_1.1).size = 4 then ((stA k_3 r_1.1 w_4).bind fun w_5 =>
  (ldI .i64 (k_3.add 1) w_5).bind fun v_6 =>
  some ((v_6, ()), w_5)) else none
theorem digest_Block_facts : FunFacts prog 20 f20 (bodyOf f20) [(0, .int .i64)] [(0, 12)] := ⟨func20, by kernel_rfl, by kernel_rfl, by kernel_rfl, by kernel_rfl, by kernel_rfl⟩
theorem digest_Block_calls (x : TT [(0, .int .i64)]) (w : World) (y : TR [.int .i64]) (w2 : World) (h : digest_Block x.1 w = some (y, w2)) : Calls prog 20 (encA [(0, .int .i64)] x).toArray w (fun e w3 => e = .returned (resV (encR [.int .i64] y)) ∧ w3 = w2) :=
    mk_fun (O := tabL []) (Lp := [(0, .int .i64)]) (Rt := [.int .i64]) (S := (fun x w => digest_Block x.1 w)) (digest_Block_Eok) (digest_Block_Rok) rfl digest_Block_facts (Orc.nil _ _ _) (fun _ _ => by kernel_rfl) x w y w2 h
noncomputable def digest_Block_ce : CE := funE [(0, .int .i64)] [.int .i64] (fun x w => digest_Block x.1 w)
theorem digest_Block_ok : (digest_Block_ce).Ok prog 20 := funE_ok (Rt := [.int .i64]) (S := (fun x w => digest_Block x.1 w)) digest_Block_facts fun x w y w2 h => digest_Block_calls x w y w2 h

noncomputable def ref01_Block_R : List (Nat × RE) := []
theorem ref01_Block_Rok : REnv.Ok prog (tab (ref01_Block_R)) := (REnv.nil _)
noncomputable def ref01_Block_s0 (a3 : Int) (a4 : Bool) : Option (Out (Bool × Unit) (Int × Unit)) :=
  if a4 = true then (some (.norm (true, ()))) else (some (.norm ((a3 == 256), ())))
/-- coffer/cofferref01.Block -/
noncomputable def ref01_Block (hash0 : Int) : Option (Int × Unit) :=
  (ref01_Block_s0 hash0 (hash0 == 224)).bind fun y_1 =>
  (match y_1 with
  | .norm z_2n => (if z_2n.1 = true then (some (64, ())) else (if (hash0 == 384) = true then (some (128, ())) else (if (hash0 == 512) = true then (some (128, ())) else (some (0, ())))))
  | .ret z_2r => (some (z_2r.1, ())))
theorem ref01_Block_s0_ok : StmtQOk prog [(3, .int .i64), (4, .bool)] [(4, .bool)] [(2, .int .i64)] [(4, 5), (6, 7)] (fun x w => ref01_Block_s0 x.1 x.2.1) (cd (bodyOf f21) [1, 0, 1, 0, 0, 1]) :=
    mk_stmtQ (O := tabL []) (root := (bodyOf f21)) (π := [1, 0, 1, 0, 0, 1]) (Li := [(3, .int .i64), (4, .bool)]) (Lo := [(4, .bool)]) (Lr := [(2, .int .i64)]) (S := (fun x w => ref01_Block_s0 x.1 x.2.1)) (ref01_Block_Rok) (OrcQ.nil _ _ _) (by kernel_rfl) (fun _ _ => by kernel_rfl)
noncomputable def ref01_Block_s0_se : SQ := stmtQ [(3, .int .i64), (4, .bool)] [(4, .bool)] [(2, .int .i64)] [(4, 5), (6, 7)] (fun x w => ref01_Block_s0 x.1 x.2.1)
theorem ref01_Block_s0_se_ok (R : Rg) (h : subRB [(4, 5), (6, 7)] R = true) : (ref01_Block_s0_se).Ok prog R (cd (bodyOf f21) [1, 0, 1, 0, 0, 1]) := stmtQ_ok (Li := [(3, .int .i64), (4, .bool)]) (Lo := [(4, .bool)]) (Lr := [(2, .int .i64)]) (S := (fun x w => ref01_Block_s0 x.1 x.2.1)) (ref01_Block_s0_ok) (subR_of h)
theorem ref01_Block_facts : FunFacts prog 21 f21 (bodyOf f21) [(0, .int .i64)] [(0, 10)] := ⟨func21, by kernel_rfl, by kernel_rfl, by kernel_rfl, by kernel_rfl, by kernel_rfl⟩
theorem ref01_Block_calls (x : TT [(0, .int .i64)]) (w : World) (y : TR [.int .i64]) (h : ref01_Block x.1 = some y) : Calls prog 21 (encA [(0, .int .i64)] x).toArray w (fun e w3 => e = .returned (resV (encR [.int .i64] y)) ∧ w3 = w) :=
    mk_funQ (O := tabL [([1, 0, 1, 0, 0, 1], ref01_Block_s0_se)]) (Lp := [(0, .int .i64)]) (Rt := [.int .i64]) (S := (fun x w => ref01_Block x.1)) (ref01_Block_Rok) ref01_Block_facts (OrcQ.cons (by kernel_rfl) (ref01_Block_s0_se_ok [(0, 10)] (by kernel_rfl)) (OrcQ.nil _ _ _)) (fun _ _ => by kernel_rfl) x w y h
noncomputable def ref01_Block_re : RE := funR [(0, .int .i64)] [.int .i64] (fun x w => ref01_Block x.1)
theorem ref01_Block_ok : (ref01_Block_re).Ok prog 21 := funR_ok (Rt := [.int .i64]) (S := (fun x w => ref01_Block x.1)) ref01_Block_facts fun x w y h => ref01_Block_calls x w y h

noncomputable def law01_DigestSizes_E : List (Nat × CE) := [(18, digest_Size_ce), (20, digest_Block_ce)]
theorem law01_DigestSizes_Eok : Env.Ok prog (tab (law01_DigestSizes_E)) := (Env.cons (digest_Size_ok) (Env.cons (digest_Block_ok) (Env.nil _)))
noncomputable def law01_DigestSizes_R : List (Nat × RE) := [(19, ref01_Size_re), (21, ref01_Block_re)]
theorem law01_DigestSizes_Rok : REnv.Ok prog (tab (law01_DigestSizes_R)) := (REnv.cons (ref01_Size_ok) (REnv.cons (ref01_Block_ok) (REnv.nil _)))
/-- coffer/cofferlaw01.DigestSizes -/
noncomputable def law01_DigestSizes (hash0 : Int) (w : World) : Option ((Bool × Unit) × World) :=
  bnd (digest_Size hash0 w) fun r_1 w_2 =>
  (ref01_Size hash0).bind fun r_3 =>
  if (r_1.1 == r_3.1) = true then (bnd (digest_Block hash0 w_2) fun r_4 w_5 =>
  (ref01_Block hash0).bind fun r_6 =>
  if (r_4.1 == r_6.1) = true then (bnd (digest_Size 256 w_5) fun r_7 w_8 =>
  some (((r_7.1 == 32), ()), w_8)) else (some ((false, ()), w_5))) else (some ((false, ()), w_2))
theorem law01_DigestSizes_facts : FunFacts prog 3 f3 (bodyOf f3) [(0, .int .i64)] [(0, 19)] := ⟨func3, by kernel_rfl, by kernel_rfl, by kernel_rfl, by kernel_rfl, by kernel_rfl⟩
theorem law01_DigestSizes_calls (x : TT [(0, .int .i64)]) (w : World) (y : TR [.bool]) (w2 : World) (h : law01_DigestSizes x.1 w = some (y, w2)) : Calls prog 3 (encA [(0, .int .i64)] x).toArray w (fun e w3 => e = .returned (resV (encR [.bool] y)) ∧ w3 = w2) :=
    mk_fun (O := tabL []) (Lp := [(0, .int .i64)]) (Rt := [.bool]) (S := (fun x w => law01_DigestSizes x.1 w)) (law01_DigestSizes_Eok) (law01_DigestSizes_Rok) rfl law01_DigestSizes_facts (Orc.nil _ _ _) (fun _ _ => by kernel_rfl) x w y w2 h
noncomputable def law01_DigestSizes_ce : CE := funE [(0, .int .i64)] [.bool] (fun x w => law01_DigestSizes x.1 w)
theorem law01_DigestSizes_ok : (law01_DigestSizes_ce).Ok prog 3 := funE_ok (Rt := [.bool]) (S := (fun x w => law01_DigestSizes x.1 w)) law01_DigestSizes_facts fun x w y w2 h => law01_DigestSizes_calls x w y w2 h

noncomputable def law01_joined_E (K : Nat) : List (Nat × CE) := []
theorem law01_joined_Eok (K : Nat) : Env.Ok prog (tab (law01_joined_E K)) := (Env.nil _)
noncomputable def law01_joined_R (K : Nat) : List (Nat × RE) := []
theorem law01_joined_Rok (K : Nat) : REnv.Ok prog (tab (law01_joined_R K)) := (REnv.nil _)
noncomputable def law01_joined_s1 (K : Nat) (parts0 : Sl) (out3 : Sl) (i4 : Int) (w : World) : Option ((Bool × Unit) × World) :=
  if (decide (i4 < ((parts0.len : Nat) : Int))) = true then (some (((decide (((out3.len : Nat) : Int) ≤ 65536)), ()), w)) else (some ((false, ()), w))
noncomputable def law01_joined_l0_b (K : Nat) (rec : Sl → Sl → Int → World → Option ((Sl × Unit) × World)) (parts0 : Sl) (out3 : Sl) (i4 : Int) (w : World) : Option ((Sl × Unit) × World) :=
  bnd (law01_joined_s1 K parts0 out3 i4 w) fun y_1 w_2 =>
  if y_1.1 = true then ((parts0.a).bind fun p_3 =>
  if (0 : Int) ≤ i4 ∧ i4 < ((parts0.len : Nat) : Int) then ((ldS (p_3.add ((Int.toNat i4) * 1)) w_2).bind fun v_4 =>
  bnd (apd prog 25 25 (.slice out3.a out3.len out3.cap) (.slice v_4.a v_4.len v_4.cap) w_2) fun s_5 w_6 =>
  rec parts0 s_5 (IntKind.i64.wrap (i4 + 1)) w_6) else none) else (some ((out3, ()), w_2))
noncomputable def law01_joined_l0 (K : Nat) (n : Nat) : Sl → Sl → Int → World → Option ((Sl × Unit) × World) := iter (fun _ _ _ _ => none) (law01_joined_l0_b K) n
/-- coffer/cofferlaw01.joined -/
noncomputable def law01_joined (K : Nat) (parts0 : Sl) (w : World) : Option ((Sl × Unit) × World) :=
  bnd (law01_joined_l0 K K parts0 ⟨none, 0, 0⟩ 0 w) fun y_7 w_8 =>
  some ((y_7.1, ()), w_8)
theorem law01_joined_s1_ok (K : Nat) : StmtNOk prog [(0, .sl), (3, .sl), (4, .int .i64)] [(13, .bool)] [(5, 14)] (fun x w => law01_joined_s1 K x.1 x.2.1 x.2.2.1 w) (cd (bodyOf f22) [1, 1, 0, 1, 0, 0, 0, 0]) :=
    mk_stmtN (O := tabL []) (root := (bodyOf f22)) (π := [1, 1, 0, 1, 0, 0, 0, 0]) (Li := [(0, .sl), (3, .sl), (4, .int .i64)]) (Lo := [(13, .bool)]) (S := (fun x w => law01_joined_s1 K x.1 x.2.1 x.2.2.1 w)) (law01_joined_Eok K) (law01_joined_Rok K) rfl (Orc.nil _ _ _) (by kernel_rfl) (fun _ _ => by kernel_rfl)
noncomputable def law01_joined_s1_se (K : Nat) : SE := stmtN [(0, .sl), (3, .sl), (4, .int .i64)] [(13, .bool)] [(5, 14)] (fun x w => law01_joined_s1 K x.1 x.2.1 x.2.2.1 w)
theorem law01_joined_s1_se_ok (K : Nat) (R : Rg) (h : subRB [(5, 14)] R = true) : (law01_joined_s1_se K).Ok prog R (cd (bodyOf f22) [1, 1, 0, 1, 0, 0, 0, 0]) := stmtN_ok (Li := [(0, .sl), (3, .sl), (4, .int .i64)]) (Lo := [(13, .bool)]) (S := (fun x w => law01_joined_s1 K x.1 x.2.1 x.2.2.1 w)) (law01_joined_s1_ok K) (subR_of h)
theorem law01_joined_l0_ok (K : Nat) (n : Nat) : StmtNOk prog [(0, .sl), (3, .sl), (4, .int .i64)] [(3, .sl)] [(3, 22)] ((fun n x w => law01_joined_l0 K n x.1 x.2.1 x.2.2.1 w) n) (.block 0 (.loop (cd (bodyOf f22) [1, 1, 0, 1, 0, 0]))) :=
    mk_loopN (O := tabL [([1, 1, 0, 1, 0, 0, 0, 0], law01_joined_s1_se K)]) (root := (bodyOf f22)) (π := [1, 1, 0, 1, 0, 0]) (id := 0) (Li := [(0, .sl), (3, .sl), (4, .int .i64)]) (Lo := [(3, .sl)]) (S := (fun n x w => law01_joined_l0 K n x.1 x.2.1 x.2.2.1 w)) (body := cd (bodyOf f22) [1, 1, 0, 1, 0, 0]) (law01_joined_Eok K) (law01_joined_Rok K) rfl (Orc.cons (by kernel_rfl) (law01_joined_s1_se_ok K [(3, 22)] (by kernel_rfl)) (Orc.nil _ _ _)) (by kernel_rfl) (fun _ _ => by kernel_rfl) (fun _ _ _ => by kernel_rfl) n
noncomputable def law01_joined_l0_se (K : Nat) : SE := stmtN [(0, .sl), (3, .sl), (4, .int .i64)] [(3, .sl)] [(3, 22)] (fun x w => law01_joined_l0 K K x.1 x.2.1 x.2.2.1 w)
theorem law01_joined_l0_se_ok (K : Nat) (R : Rg) (h : subRB [(3, 22)] R = true) : (law01_joined_l0_se K).Ok prog R (.block 0 (.loop (cd (bodyOf f22) [1, 1, 0, 1, 0, 0]))) := stmtN_ok (Li := [(0, .sl), (3, .sl), (4, .int .i64)]) (Lo := [(3, .sl)]) (S := (fun x w => law01_joined_l0 K K x.1 x.2.1 x.2.2.1 w)) (law01_joined_l0_ok K K) (subR_of h)
theorem law01_joined_facts : FunFacts prog 22 f22 (bodyOf f22) [(0, .sl)] [(0, 23)] := ⟨func22, by kernel_rfl, by kernel_rfl, by kernel_rfl, by kernel_rfl, by kernel_rfl⟩
theorem law01_joined_calls (K : Nat) (x : TT [(0, .sl)]) (w : World) (y : TR [.sl]) (w2 : World) (h : law01_joined K x.1 w = some (y, w2)) : Calls prog 22 (encA [(0, .sl)] x).toArray w (fun e w3 => e = .returned (resV (encR [.sl] y)) ∧ w3 = w2) :=
    mk_fun (O := tabL [([1, 1, 0, 1], law01_joined_l0_se K), ([1, 1, 0, 1, 0, 0, 0, 0], law01_joined_s1_se K)]) (Lp := [(0, .sl)]) (Rt := [.sl]) (S := (fun x w => law01_joined K x.1 w)) (law01_joined_Eok K) (law01_joined_Rok K) rfl law01_joined_facts (Orc.cons (by kernel_rfl) (law01_joined_l0_se_ok K [(0, 23)] (by kernel_rfl)) (Orc.cons (by kernel_rfl) (law01_joined_s1_se_ok K [(0, 23)] (by kernel_rfl)) (Orc.nil _ _ _))) (fun _ _ => by kernel_rfl) x w y w2 h
noncomputable def law01_joined_ce (K : Nat) : CE := funE [(0, .sl)] [.sl] (fun x w => law01_joined K x.1 w)
theorem law01_joined_ok (K : Nat) : (law01_joined_ce K).Ok prog 22 := funE_ok (Rt := [.sl]) (S := (fun x w => law01_joined K x.1 w)) law01_joined_facts fun x w y w2 h => law01_joined_calls K x w y w2 h

noncomputable def book_Bytes_E (K : Nat) : List (Nat × CE) := []
theorem book_Bytes_Eok (K : Nat) : Env.Ok prog (tab (book_Bytes_E K)) := (Env.nil _)
noncomputable def book_Bytes_R (K : Nat) : List (Nat × RE) := []
theorem book_Bytes_Rok (K : Nat) : REnv.Ok prog (tab (book_Bytes_R K)) := (REnv.nil _)
noncomputable def book_Bytes_l0_b (K : Nat) (rec : Sl → Sl → Int → World → Option ((Sl × Unit) × World)) (l0 : Sl) (c3 : Sl) (i4 : Int) (w : World) : Option ((Sl × Unit) × World) :=
  if (decide (i4 < 70)) = true then (bnd (bldS prog 25 1 #[(0, (.int .u8 (IntKind.u8.wrap (IntKind.i64.wrap (181 + i4)))))] w) fun s_3 w_4 =>
  bnd (apd prog 25 25 (.slice c3.a c3.len c3.cap) (.slice s_3.a s_3.len s_3.cap) w_4) fun s_5 w_6 =>
  rec l0 s_5 (IntKind.i64.wrap (i4 + 1)) w_6) else (some ((c3, ()), w))
noncomputable def book_Bytes_l0 (K : Nat) (n : Nat) : Sl → Sl → Int → World → Option ((Sl × Unit) × World) := iter (fun _ _ _ _ => none) (book_Bytes_l0_b K) n
/-- coffer/cofferbook.Bytes -/
noncomputable def book_Bytes (K : Nat) (l0 : Sl) (w : World) : Option ((Sl × Unit) × World) :=
  bnd (apd prog 25 25 (.slice none 0 0) (.slice l0.a l0.len l0.cap) w) fun s_1 w_2 =>
  bnd (book_Bytes_l0 K K l0 s_1 0 w_2) fun y_7 w_8 =>
  if (0 : Int) ≤ ((l0.len : Nat) : Int) ∧ ((l0.len : Nat) : Int) ≤ ((y_7.1.cap : Nat) : Int) then (some ((⟨(sla y_7.1.a 0 y_7.1.cap 1), ((Int.toNat (((l0.len : Nat) : Int))) - 0), (y_7.1.cap - 0)⟩, ()), w_8)) else none
theorem book_Bytes_l0_ok (K : Nat) (n : Nat) : StmtNOk prog [(0, .sl), (3, .sl), (4, .int .i64)] [(3, .sl)] [(3, 5), (9, 19)] ((fun n x w => book_Bytes_l0 K n x.1 x.2.1 x.2.2.1 w) n) (.block 0 (.loop (cd (bodyOf f30) [1, 1, 1, 0, 1, 0, 0]))) :=
    mk_loopN (O := tabL []) (root := (bodyOf f30)) (π := [1, 1, 1, 0, 1, 0, 0]) (id := 0) (Li := [(0, .sl), (3, .sl), (4, .int .i64)]) (Lo := [(3, .sl)]) (S := (fun n x w => book_Bytes_l0 K n x.1 x.2.1 x.2.2.1 w)) (body := cd (bodyOf f30) [1, 1, 1, 0, 1, 0, 0]) (book_Bytes_Eok K) (book_Bytes_Rok K) rfl (Orc.nil _ _ _) (by kernel_rfl) (fun _ _ => by kernel_rfl) (fun _ _ _ => by kernel_rfl) n
noncomputable def book_Bytes_l0_se (K : Nat) : SE := stmtN [(0, .sl), (3, .sl), (4, .int .i64)] [(3, .sl)] [(3, 5), (9, 19)] (fun x w => book_Bytes_l0 K K x.1 x.2.1 x.2.2.1 w)
theorem book_Bytes_l0_se_ok (K : Nat) (R : Rg) (h : subRB [(3, 5), (9, 19)] R = true) : (book_Bytes_l0_se K).Ok prog R (.block 0 (.loop (cd (bodyOf f30) [1, 1, 1, 0, 1, 0, 0]))) := stmtN_ok (Li := [(0, .sl), (3, .sl), (4, .int .i64)]) (Lo := [(3, .sl)]) (S := (fun x w => book_Bytes_l0 K K x.1 x.2.1 x.2.2.1 w)) (book_Bytes_l0_ok K K) (subR_of h)
theorem book_Bytes_facts : FunFacts prog 30 f30 (bodyOf f30) [(0, .sl)] [(0, 24)] := ⟨func30, by kernel_rfl, by kernel_rfl, by kernel_rfl, by kernel_rfl, by kernel_rfl⟩
theorem book_Bytes_calls (K : Nat) (x : TT [(0, .sl)]) (w : World) (y : TR [.sl]) (w2 : World) (h : book_Bytes K x.1 w = some (y, w2)) : Calls prog 30 (encA [(0, .sl)] x).toArray w (fun e w3 => e = .returned (resV (encR [.sl] y)) ∧ w3 = w2) :=
    mk_fun (O := tabL [([1, 1, 1, 0, 1], book_Bytes_l0_se K)]) (Lp := [(0, .sl)]) (Rt := [.sl]) (S := (fun x w => book_Bytes K x.1 w)) (book_Bytes_Eok K) (book_Bytes_Rok K) rfl book_Bytes_facts (Orc.cons (by kernel_rfl) (book_Bytes_l0_se_ok K [(0, 24)] (by kernel_rfl)) (Orc.nil _ _ _)) (fun _ _ => by kernel_rfl) x w y w2 h
noncomputable def book_Bytes_ce (K : Nat) : CE := funE [(0, .sl)] [.sl] (fun x w => book_Bytes K x.1 w)
theorem book_Bytes_ok (K : Nat) : (book_Bytes_ce K).Ok prog 30 := funE_ok (Rt := [.sl]) (S := (fun x w => book_Bytes K x.1 w)) book_Bytes_facts fun x w y w2 h => book_Bytes_calls K x w y w2 h

noncomputable def law01_lent_E (K : Nat) : List (Nat × CE) := [(30, book_Bytes_ce K)]
theorem law01_lent_Eok (K : Nat) : Env.Ok prog (tab (law01_lent_E K)) := (Env.cons (book_Bytes_ok K) (Env.nil _))
noncomputable def law01_lent_R (K : Nat) : List (Nat × RE) := []
theorem law01_lent_Rok (K : Nat) : REnv.Ok prog (tab (law01_lent_R K)) := (REnv.nil _)
noncomputable def law01_lent_l0_b (K : Nat) (rec : Sl → Sl → Int → World → Option ((Sl × Unit) × World)) (parts0 : Sl) (l3 : Sl) (i4 : Int) (w : World) : Option ((Sl × Unit) × World) :=
  if (decide (i4 < ((parts0.len : Nat) : Int))) = true then ((parts0.a).bind fun p_1 =>
  if (0 : Int) ≤ i4 ∧ i4 < ((parts0.len : Nat) : Int) then ((ldS (p_1.add ((Int.toNat i4) * 1)) w).bind fun v_2 =>
  bnd (book_Bytes K v_2 w) fun r_3 w_4 =>
  bnd (bldS prog 24 1 #[(0, (.slice r_3.1.a r_3.1.len r_3.1.cap))] w_4) fun s_5 w_6 =>
  bnd (apd prog 24 24 (.slice l3.a l3.len l3.cap) (.slice s_5.a s_5.len s_5.cap) w_6) fun s_7 w_8 =>
  rec parts0 s_7 (IntKind.i64.wrap (i4 + 1)) w_8) else none) else (some ((l3, ()), w))
noncomputable def law01_lent_l0 (K : Nat) (n : Nat) : Sl → Sl → Int → World → Option ((Sl × Unit) × World) := iter (fun _ _ _ _ => none) (law01_lent_l0_b K) n
/-- coffer/cofferlaw01.lent -/
noncomputable def law01_lent (K : Nat) (parts0 : Sl) (w : World) : Option ((Sl × Unit) × World) :=
  bnd (law01_lent_l0 K K parts0 ⟨none, 0, 0⟩ 0 w) fun y_9 w_10 =>
  some ((y_9.1, ()), w_10)
theorem law01_lent_l0_ok (K : Nat) (n : Nat) : StmtNOk prog [(0, .sl), (3, .sl), (4, .int .i64)] [(3, .sl)] [(3, 21)] ((fun n x w => law01_lent_l0 K n x.1 x.2.1 x.2.2.1 w) n) (.block 0 (.loop (cd (bodyOf f23) [1, 1, 0, 1, 0, 0]))) :=
    mk_loopN (O := tabL []) (root := (bodyOf f23)) (π := [1, 1, 0, 1, 0, 0]) (id := 0) (Li := [(0, .sl), (3, .sl), (4, .int .i64)]) (Lo := [(3, .sl)]) (S := (fun n x w => law01_lent_l0 K n x.1 x.2.1 x.2.2.1 w)) (body := cd (bodyOf f23) [1, 1, 0, 1, 0, 0]) (law01_lent_Eok K) (law01_lent_Rok K) rfl (Orc.nil _ _ _) (by kernel_rfl) (fun _ _ => by kernel_rfl) (fun _ _ _ => by kernel_rfl) n
noncomputable def law01_lent_l0_se (K : Nat) : SE := stmtN [(0, .sl), (3, .sl), (4, .int .i64)] [(3, .sl)] [(3, 21)] (fun x w => law01_lent_l0 K K x.1 x.2.1 x.2.2.1 w)
theorem law01_lent_l0_se_ok (K : Nat) (R : Rg) (h : subRB [(3, 21)] R = true) : (law01_lent_l0_se K).Ok prog R (.block 0 (.loop (cd (bodyOf f23) [1, 1, 0, 1, 0, 0]))) := stmtN_ok (Li := [(0, .sl), (3, .sl), (4, .int .i64)]) (Lo := [(3, .sl)]) (S := (fun x w => law01_lent_l0 K K x.1 x.2.1 x.2.2.1 w)) (law01_lent_l0_ok K K) (subR_of h)
theorem law01_lent_facts : FunFacts prog 23 f23 (bodyOf f23) [(0, .sl)] [(0, 22)] := ⟨func23, by kernel_rfl, by kernel_rfl, by kernel_rfl, by kernel_rfl, by kernel_rfl⟩
theorem law01_lent_calls (K : Nat) (x : TT [(0, .sl)]) (w : World) (y : TR [.sl]) (w2 : World) (h : law01_lent K x.1 w = some (y, w2)) : Calls prog 23 (encA [(0, .sl)] x).toArray w (fun e w3 => e = .returned (resV (encR [.sl] y)) ∧ w3 = w2) :=
    mk_fun (O := tabL [([1, 1, 0, 1], law01_lent_l0_se K)]) (Lp := [(0, .sl)]) (Rt := [.sl]) (S := (fun x w => law01_lent K x.1 w)) (law01_lent_Eok K) (law01_lent_Rok K) rfl law01_lent_facts (Orc.cons (by kernel_rfl) (law01_lent_l0_se_ok K [(0, 22)] (by kernel_rfl)) (Orc.nil _ _ _)) (fun _ _ => by kernel_rfl) x w y w2 h
noncomputable def law01_lent_ce (K : Nat) : CE := funE [(0, .sl)] [.sl] (fun x w => law01_lent K x.1 w)
theorem law01_lent_ok (K : Nat) : (law01_lent_ce K).Ok prog 23 := funE_ok (Rt := [.sl]) (S := (fun x w => law01_lent K x.1 w)) law01_lent_facts fun x w y w2 h => law01_lent_calls K x w y w2 h

noncomputable def digest_first_E (K : Nat) : List (Nat × CE) := []
theorem digest_first_Eok (K : Nat) : Env.Ok prog (tab (digest_first_E K)) := (Env.nil _)
noncomputable def digest_first_R (K : Nat) : List (Nat × RE) := []
theorem digest_first_Rok (K : Nat) : REnv.Ok prog (tab (digest_first_R K)) := (REnv.nil _)
noncomputable def digest_first_l0_b (K : Nat) (rec : Int → Addr → Int → World → Option ((Unit) × World)) (hash0 : Int) (out2 : Addr) (a4 : Int) (w : World) : Option ((Unit) × World) :=
  if (decide (a4 < 8)) = true then (if (hash0 == 224) = true then (if (0 : Int) ≤ (IntKind.i64.wrap (8 + a4)) ∧ (IntKind.i64.wrap (8 + a4)) < ((16 : Nat) : Int) then ((ldI .u64 ((⟨3, 0, none⟩ : Addr).add ((Int.toNat (IntKind.i64.wrap (8 + a4))) * 1)) w).bind fun v_3 =>
  if (0 : Int) ≤ a4 ∧ a4 < ((8 : Nat) : Int) then ((stC (out2.add ((Int.toNat a4) * 1)) (.int .u64 (bits .and .u64 v_3 4294967295)) w).bind fun w_4 =>
  rec hash0 out2 (IntKind.i64.wrap (a4 + 1)) w_4) else none) else none) else (if (hash0 == 256) = true then (if (0 : Int) ≤ a4 ∧ a4 < ((16 : Nat) : Int) then ((ldI .u64 ((⟨3, 0, none⟩ : Addr).add ((Int.toNat a4) * 1)) w).bind fun v_5 =>
  if (0 : Int) ≤ a4 ∧ a4 < ((8 : Nat) : Int) then ((stC (out2.add ((Int.toNat a4) * 1)) (.int .u64 (Int.fdiv v_5 (2 ^ 32))) w).bind fun w_6 =>
  rec hash0 out2 (IntKind.i64.wrap (a4 + 1)) w_6) else none) else none) else (if (hash0 == 384) = true then (if (0 : Int) ≤ (IntKind.i64.wrap (8 + a4)) ∧ (IntKind.i64.wrap (8 + a4)) < ((16 : Nat) : Int) then ((ldI .u64 ((⟨3, 0, none⟩ : Addr).add ((Int.toNat (IntKind.i64.wrap (8 + a4))) * 1)) w).bind fun v_7 =>
  if (0 : Int) ≤ a4 ∧ a4 < ((8 : Nat) : Int) then ((stC (out2.add ((Int.toNat a4) * 1)) (.int .u64 v_7) w).bind fun w_8 =>
  rec hash0 out2 (IntKind.i64.wrap (a4 + 1)) w_8) else none) else none) else (if (hash0 == 512) = true then (if (0 : Int) ≤ a4 ∧ a4 < ((16 : Nat) : Int) then ((ldI .u64 ((⟨3, 0, none⟩ : Addr).add ((Int.toNat a4) * 1)) w).bind fun v_9 =>
  if (0 : Int) ≤ a4 ∧ a4 < ((8 : Nat) : Int) then ((stC (out2.add ((Int.toNat a4) * 1)) (.int .u64 v_9) w).bind fun w_10 =>
  rec hash0 out2 (IntKind.i64.wrap (a4 + 1)) w_10) else none) else none) else (rec hash0 out2 (IntKind.i64.wrap (a4 + 1)) w))))) else (some ((), w))
noncomputable def digest_first_l0 (K : Nat) (n : Nat) : Int → Addr → Int → World → Option ((Unit) × World) := iter (fun _ _ _ _ => none) (digest_first_l0_b K) n
/-- coffer/digest.first -/
noncomputable def digest_first (K : Nat) (hash0 : Int) (w : World) : Option (((Array Value) × Unit) × World) :=
  bnd (newB z80 80 w) fun out_1 w_2 =>
  bnd (digest_first_l0 K K hash0 out_1 0 w_2) fun y_11 w_12 =>
  (ldA 8 out_1 w_12).bind fun v_13 =>
  if (v_13).size = 8 then ((stA out_1 v_13 w_12).bind fun w_14 =>
  (ldA 8 out_1 w_14).bind fun res_15 =>
  some ((res_15, ()), w_14)) else none
theorem digest_first_l0_ok (K : Nat) (n : Nat) : StmtNOk prog [(0, .int .i64), (2, .addr), (4, .int .i64)] [] [(3, 41)] ((fun n x w => digest_first_l0 K n x.1 x.2.1 x.2.2.1 w) n) (.block 0 (.loop (cd (bodyOf f83) [1, 0, 1, 0, 0]))) :=
    mk_loopN (O := tabL []) (root := (bodyOf f83)) (π := [1, 0, 1, 0, 0]) (id := 0) (Li := [(0, .int .i64), (2, .addr), (4, .int .i64)]) (Lo := []) (S := (fun n x w => digest_first_l0 K n x.1 x.2.1 x.2.2.1 w)) (body := cd (bodyOf f83) [1, 0, 1, 0, 0]) (digest_first_Eok K) (digest_first_Rok K) rfl (Orc.nil _ _ _) (by kernel_rfl) (fun _ _ => by kernel_rfl) (fun _ _ _ => by kernel_rfl) n
noncomputable def digest_first_l0_se (K : Nat) : SE := stmtN [(0, .int .i64), (2, .addr), (4, .int .i64)] [] [(3, 41)] (fun x w => digest_first_l0 K K x.1 x.2.1 x.2.2.1 w)
theorem digest_first_l0_se_ok (K : Nat) (R : Rg) (h : subRB [(3, 41)] R = true) : (digest_first_l0_se K).Ok prog R (.block 0 (.loop (cd (bodyOf f83) [1, 0, 1, 0, 0]))) := stmtN_ok (Li := [(0, .int .i64), (2, .addr), (4, .int .i64)]) (Lo := []) (S := (fun x w => digest_first_l0 K K x.1 x.2.1 x.2.2.1 w)) (digest_first_l0_ok K K) (subR_of h)
theorem digest_first_facts : FunFacts prog 83 f83 (bodyOf f83) [(0, .int .i64)] [(0, 42)] := ⟨func83, by kernel_rfl, by kernel_rfl, by kernel_rfl, by kernel_rfl, by kernel_rfl⟩
theorem digest_first_calls (K : Nat) (x : TT [(0, .int .i64)]) (w : World) (y : TR [.agg]) (w2 : World) (h : digest_first K x.1 w = some (y, w2)) : Calls prog 83 (encA [(0, .int .i64)] x).toArray w (fun e w3 => e = .returned (resV (encR [.agg] y)) ∧ w3 = w2) :=
    mk_fun (O := tabL [([1, 0, 1], digest_first_l0_se K)]) (Lp := [(0, .int .i64)]) (Rt := [.agg]) (S := (fun x w => digest_first K x.1 w)) (digest_first_Eok K) (digest_first_Rok K) rfl digest_first_facts (Orc.cons (by kernel_rfl) (digest_first_l0_se_ok K [(0, 42)] (by kernel_rfl)) (Orc.nil _ _ _)) (fun _ _ => by kernel_rfl) x w y w2 h
noncomputable def digest_first_ce (K : Nat) : CE := funE [(0, .int .i64)] [.agg] (fun x w => digest_first K x.1 w)
theorem digest_first_ok (K : Nat) : (digest_first_ce K).Ok prog 83 := funE_ok (Rt := [.agg]) (S := (fun x w => digest_first K x.1 w)) digest_first_facts fun x w y w2 h => digest_first_calls K x w y w2 h

noncomputable def digest_begin_E (K : Nat) : List (Nat × CE) := [(61, digest_kindOf_ce), (83, digest_first_ce K)]
theorem digest_begin_Eok (K : Nat) : Env.Ok prog (tab (digest_begin_E K)) := (Env.cons (digest_kindOf_ok) (Env.cons (digest_first_ok K) (Env.nil _)))
noncomputable def digest_begin_R (K : Nat) : List (Nat × RE) := []
theorem digest_begin_Rok (K : Nat) : REnv.Ok prog (tab (digest_begin_R K)) := (REnv.nil _)
/-- coffer/digest.begin -/
noncomputable def digest_begin (K : Nat) (hash0 : Int) (w : World) : Option (((Array Value) × Bool × Unit) × World) :=
  bnd (newB z87 87 w) fun p_1 w_2 =>
  bnd (digest_kindOf hash0 w_2) fun r_3 w_4 =>
  bnd (newB z77 77 w_4) fun k_5 w_6 =>
  if (r_3.1).size = 4 then ((stA k_5 r_3.1 w_6).bind fun w_7 =>
  (ldA 4 k_5 w_7.drew).bind fun v_8 =>
  bnd (digest_first K hash0 w_7.drew) fun r_9 w_10 =>
  (ldA 4 k_5 w_10).bind fun v_11 =>
  sameK (.agg v_8) (.agg v_11) ((prog.built 87 [(0, (.agg v_8)), (1, (.int .i64 hash0)), (3, (.agg r_9.1))]).bind fun cs_12 =>
  if (cs_12).size = 142 then ((stA p_1 cs_12 w_10).bind fun w_13 =>
  (ldA 142 p_1 w_13).bind fun res_14 =>
  some ((res_14, r_3.2.1, ()), w_13)) else none)) else none
theorem digest_begin_facts : FunFacts prog 72 f72 (bodyOf f72) [(0, .int .i64)] [(0, 17)] := ⟨func72, by kernel_rfl, by kernel_rfl, by kernel_rfl, by kernel_rfl, by kernel_rfl⟩
theorem digest_begin_calls (K : Nat) (x : TT [(0, .int .i64)]) (w : World) (y : TR [.agg, .bool]) (w2 : World) (h : digest_begin K x.1 w = some (y, w2)) : Calls prog 72 (encA [(0, .int .i64)] x).toArray w (fun e w3 => e = .returned (resV (encR [.agg, .bool] y)) ∧ w3 = w2) :=
    mk_fun (O := tabL []) (Lp := [(0, .int .i64)]) (Rt := [.agg, .bool]) (S := (fun x w => digest_begin K x.1 w)) (digest_begin_Eok K) (digest_begin_Rok K) rfl digest_begin_facts (Orc.nil _ _ _) (fun _ _ => by kernel_rfl) x w y w2 h
noncomputable def digest_begin_ce (K : Nat) : CE := funE [(0, .int .i64)] [.agg, .bool] (fun x w => digest_begin K x.1 w)
theorem digest_begin_ok (K : Nat) : (digest_begin_ce K).Ok prog 72 := funE_ok (Rt := [.agg, .bool]) (S := (fun x w => digest_begin K x.1 w)) digest_begin_facts fun x w y w2 h => digest_begin_calls K x w y w2 h

noncomputable def digest_New_E (K : Nat) : List (Nat × CE) := [(72, digest_begin_ce K)]
theorem digest_New_Eok (K : Nat) : Env.Ok prog (tab (digest_New_E K)) := (Env.cons (digest_begin_ok K) (Env.nil _))
noncomputable def digest_New_R (K : Nat) : List (Nat × RE) := []
theorem digest_New_Rok (K : Nat) : REnv.Ok prog (tab (digest_New_R K)) := (REnv.nil _)
/-- coffer/digest.New -/
noncomputable def digest_New (K : Nat) (hash0 : Int) (w : World) : Option (((Option Addr) × Int × Unit) × World) :=
  bnd (digest_begin K hash0 w) fun r_1 w_2 =>
  bnd (newB z87 87 w_2) fun s_3 w_4 =>
  if (r_1.1).size = 142 then ((stA s_3 r_1.1 w_4).bind fun w_5 =>
  if (!r_1.2.1) = true then (some ((none, 10, ()), w_5)) else ((ldA 142 s_3 w_5).bind fun v_6 =>
  (prog.built 99 [(0, (.agg v_6))]).bind fun cs_7 =>
  bnd (newB cs_7 99 w_5) fun p_8 w_9 =>
  some (((some p_8), 0, ()), w_9))) else none
theorem digest_New_facts : FunFacts prog 40 f40 (bodyOf f40) [(0, .int .i64)] [(0, 16)] := ⟨func40, by kernel_rfl, by kernel_rfl, by kernel_rfl, by kernel_rfl, by kernel_rfl⟩
theorem digest_New_calls (K : Nat) (x : TT [(0, .int .i64)]) (w : World) (y : TR [.ptr, .int .i64]) (w2 : World) (h : digest_New K x.1 w = some (y, w2)) : Calls prog 40 (encA [(0, .int .i64)] x).toArray w (fun e w3 => e = .returned (resV (encR [.ptr, .int .i64] y)) ∧ w3 = w2) :=
    mk_fun (O := tabL []) (Lp := [(0, .int .i64)]) (Rt := [.ptr, .int .i64]) (S := (fun x w => digest_New K x.1 w)) (digest_New_Eok K) (digest_New_Rok K) rfl digest_New_facts (Orc.nil _ _ _) (fun _ _ => by kernel_rfl) x w y w2 h
noncomputable def digest_New_ce (K : Nat) : CE := funE [(0, .int .i64)] [.ptr, .int .i64] (fun x w => digest_New K x.1 w)
theorem digest_New_ok (K : Nat) : (digest_New_ce K).Ok prog 40 := funE_ok (Rt := [.ptr, .int .i64]) (S := (fun x w => digest_New K x.1 w)) digest_New_facts fun x w y w2 h => digest_New_calls K x w y w2 h

noncomputable def digest_total_R (K : Nat) : List (Nat × RE) := []
theorem digest_total_Rok (K : Nat) : REnv.Ok prog (tab (digest_total_R K)) := (REnv.nil _)
noncomputable def digest_total_l0_b (K : Nat) (w : World) (rec : Int → Sl → Int → Int → Option (Out (Int × Unit) (Int × Unit))) (n3 : Int) (a6 : Sl) (a7 : Int) (a8 : Int) : Option (Out (Int × Unit) (Int × Unit)) :=
  if (decide (a8 < a7)) = true then ((a6.a).bind fun p_1 =>
  if (0 : Int) ≤ a8 ∧ a8 < ((a6.len : Nat) : Int) then ((ldS (p_1.add ((Int.toNat a8) * 1)) w).bind fun v_2 =>
  if (decide ((IntKind.i64.wrap (n3 + ((v_2.len : Nat) : Int))) > 33554432)) = true then (some (.norm ((IntKind.i64.wrap (n3 + ((v_2.len : Nat) : Int))), ()))) else (rec (IntKind.i64.wrap (n3 + ((v_2.len : Nat) : Int))) a6 a7 (IntKind.i64.wrap (a8 + 1)))) else none) else (some (.norm (n3, ())))
noncomputable def digest_total_l0 (K : Nat) (n : Nat) (n3 : Int) (a6 : Sl) (a7 : Int) (a8 : Int) (w : World) : Option (Out (Int × Unit) (Int × Unit)) := iter (α := Int → Sl → Int → Int → Option (Out (Int × Unit) (Int × Unit))) (fun _ _ _ _ => none) (digest_total_l0_b K w) n n3 a6 a7 a8
/-- coffer/digest.total -/
noncomputable def digest_total (K : Nat) (parts0 : Sl) (w : World) : Option (Int × Unit) :=
  (digest_total_l0 K K 0 parts0 ((parts0.len : Nat) : Int) 0 w).bind fun y_3 =>
  (match y_3 with
  | .norm z_4n => (some (z_4n.1, ()))
  | .ret z_4r => (some (z_4r.1, ())))
theorem digest_total_l0_ok (K : Nat) (n : Nat) : StmtQOk prog [(3, .int .i64), (6, .sl), (7, .int .i64), (8, .int .i64)] [(3, .int .i64)] [(2, .int .i64)] [(3, 4), (5, 6), (8, 19)] ((fun n x w => digest_total_l0 K n x.1 x.2.1 x.2.2.1 x.2.2.2.1 w) n) (.block 0 (.loop (cd (bodyOf f73) [1, 1, 0, 1, 0, 0]))) :=
    mk_loopQ (O := tabL []) (root := (bodyOf f73)) (π := [1, 1, 0, 1, 0, 0]) (id := 0) (Li := [(3, .int .i64), (6, .sl), (7, .int .i64), (8, .int .i64)]) (Lo := [(3, .int .i64)]) (Lr := [(2, .int .i64)]) (S := (fun n x w => digest_total_l0 K n x.1 x.2.1 x.2.2.1 x.2.2.2.1 w)) (body := cd (bodyOf f73) [1, 1, 0, 1, 0, 0]) (digest_total_Rok K) (OrcQ.nil _ _ _) (by kernel_rfl) (fun _ _ => by kernel_rfl) (fun _ _ _ => by kernel_rfl) n
noncomputable def digest_total_l0_se (K : Nat) : SQ := stmtQ [(3, .int .i64), (6, .sl), (7, .int .i64), (8, .int .i64)] [(3, .int .i64)] [(2, .int .i64)] [(3, 4), (5, 6), (8, 19)] (fun x w => digest_total_l0 K K x.1 x.2.1 x.2.2.1 x.2.2.2.1 w)
theorem digest_total_l0_se_ok (K : Nat) (R : Rg) (h : subRB [(3, 4), (5, 6), (8, 19)] R = true) : (digest_total_l0_se K).Ok prog R (.block 0 (.loop (cd (bodyOf f73) [1, 1, 0, 1, 0, 0]))) := stmtQ_ok (Li := [(3, .int .i64), (6, .sl), (7, .int .i64), (8, .int .i64)]) (Lo := [(3, .int .i64)]) (Lr := [(2, .int .i64)]) (S := (fun x w => digest_total_l0 K K x.1 x.2.1 x.2.2.1 x.2.2.2.1 w)) (digest_total_l0_ok K K) (subR_of h)
theorem digest_total_facts : FunFacts prog 73 f73 (bodyOf f73) [(0, .sl)] [(0, 20)] := ⟨func73, by kernel_rfl, by kernel_rfl, by kernel_rfl, by kernel_rfl, by kernel_rfl⟩
theorem digest_total_calls (K : Nat) (x : TT [(0, .sl)]) (w : World) (y : TR [.int .i64]) (h : digest_total K x.1 w = some y) : Calls prog 73 (encA [(0, .sl)] x).toArray w (fun e w3 => e = .returned (resV (encR [.int .i64] y)) ∧ w3 = w) :=
    mk_funQ (O := tabL [([1, 1, 0, 1], digest_total_l0_se K)]) (Lp := [(0, .sl)]) (Rt := [.int .i64]) (S := (fun x w => digest_total K x.1 w)) (digest_total_Rok K) digest_total_facts (OrcQ.cons (by kernel_rfl) (digest_total_l0_se_ok K [(0, 20)] (by kernel_rfl)) (OrcQ.nil _ _ _)) (fun _ _ => by kernel_rfl) x w y h
noncomputable def digest_total_re (K : Nat) : RE := funR [(0, .sl)] [.int .i64] (fun x w => digest_total K x.1 w)
theorem digest_total_ok (K : Nat) : (digest_total_re K).Ok prog 73 := funR_ok (Rt := [.int .i64]) (S := (fun x w => digest_total K x.1 w)) digest_total_facts fun x w y h => digest_total_calls K x w y h

noncomputable def bits_RotateLeft64_R : List (Nat × RE) := []
theorem bits_RotateLeft64_Rok : REnv.Ok prog (tab (bits_RotateLeft64_R)) := (REnv.nil _)
/-- math/bits.RotateLeft64 -/
noncomputable def bits_RotateLeft64 (x0 : Int) (k1 : Int) : Option (Int × Unit) :=
  if (0 : Int) ≤ (bits .and .u64 (IntKind.u64.wrap k1) 63) then (if (0 : Int) ≤ (IntKind.u64.wrap (64 - (bits .and .u64 (IntKind.u64.wrap k1) 63))) then (some ((bits .or .u64 (IntKind.u64.wrap (x0 * 2 ^ (min (Int.toNat (bits .and .u64 (IntKind.u64.wrap k1) 63)) IntKind.u64.bits))) (Int.fdiv x0 (2 ^ (min (Int.toNat (IntKind.u64.wrap (64 - (bits .and .u64 (IntKind.u64.wrap k1) 63)))) IntKind.u64.bits)))), ())) else none) else none
theorem bits_RotateLeft64_facts : FunFacts prog 93 f93 (bodyOf f93) [(0, .int .u64), (1, .int .i64)] [(0, 17)] := ⟨func93, by kernel_rfl, by kernel_rfl, by kernel_rfl, by kernel_rfl, by kernel_rfl⟩
theorem bits_RotateLeft64_calls (x : TT [(0, .int .u64), (1, .int .i64)]) (w : World) (y : TR [.int .u64]) (h : bits_RotateLeft64 x.1 x.2.1 = some y) : Calls prog 93 (encA [(0, .int .u64), (1, .int .i64)] x).toArray w (fun e w3 => e = .returned (resV (encR [.int .u64] y)) ∧ w3 = w) :=
    mk_funQ (O := tabL []) (Lp := [(0, .int .u64), (1, .int .i64)]) (Rt := [.int .u64]) (S := (fun x w => bits_RotateLeft64 x.1 x.2.1)) (bits_RotateLeft64_Rok) bits_RotateLeft64_facts (OrcQ.nil _ _ _) (fun _ _ => by kernel_rfl) x w y h
noncomputable def bits_RotateLeft64_re : RE := funR [(0, .int .u64), (1, .int .i64)] [.int .u64] (fun x w => bits_RotateLeft64 x.1 x.2.1)
theorem bits_RotateLeft64_ok : (bits_RotateLeft64_re).Ok prog 93 := funR_ok (Rt := [.int .u64]) (S := (fun x w => bits_RotateLeft64 x.1 x.2.1)) bits_RotateLeft64_facts fun x w y h => bits_RotateLeft64_calls x w y h

end Go.Sh
