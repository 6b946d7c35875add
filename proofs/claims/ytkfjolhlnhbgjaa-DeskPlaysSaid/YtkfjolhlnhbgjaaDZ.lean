/- A desk that no call made: what its methods answer. Conditions: none. -/
import Derived.Test.YtkfjolhlnhbgjaaDA
namespace Go.Proofs.Ytkfjolhlnhbgjaa.D
open Go.RowKit Go.Proofs.Ytkfjolhlnhbgjaa.P Go.Proofs.YtkfjolhlnhbgjaaBase Go.Proofs.YtkfjolhlnhbgjaaW.PrintWords Go.Proofs.YtkfjolhlnhbgjaaW.PrintLast Go.Proofs.Ytkfjolhlnhbgjaa.Q Go.Proofs.Ytkfjolhlnhbgjaa.L
set_option linter.unusedVariables false
set_option linter.unusedSimpArgs false

theorem Reps_nil {α : Type} (R : α → List Value → Prop) (sz : Nat) (w : World) : ReadsRow R sz w none 0 [] := ⟨rfl, by simp, fun h => absurd h (by omega)⟩
def zdesk : Obj := .cells #[.slice none 0 0, .slice none 0 0, .slice none 0 0, .slice none 0 0, .bool false] 59 (0, 0)
/-- no call made it -/
def Dead (W : World) (v : Value) : Prop := v = .pointer none ∨ ∃ b, v = .pointer (some ⟨b, 0, none⟩) ∧ W.heap[b]? = some (.cells #[.slice none 0 0, .slice none 0 0, .slice none 0 0, .slice none 0 0, .bool false] 59 (0, 0))
theorem dead_grown {W w1 : World} {v u : Value} {base : Nat} {ok : Nat → Prop} {xs : List Int} (h : Dead W v) (hv : Kd.R (Kd.int .i64) 3 W base ok u xs) (hg : W.grownBy w1 u.ownBlock) : Dead w1 v := by
  rcases h with h | ⟨b, h, hk⟩
  · exact .inl h
  · exact .inr ⟨b, h, blk_grown hk hg (Kd.R_ne hv hk (by decide))⟩
theorem Dead.below {W W' : World} {v : Value} (h : Dead W v) (hb : Below W.heap.size W W') : Dead W' v := by
  rcases h with h | ⟨b, h, hk⟩
  · exact .inl h
  · exact .inr ⟨b, h, keep_blk hb hk⟩
set_option maxHeartbeats 4000000 in
theorem of_z {W : World} {v : Value} (hd : Dead W v) (who : Int) : Calls Try.prog 43 #[v, .int .i64 who] W fun e w' => e = .returned (.tuple #[.pointer none, .int .i64 6]) ∧ Below W.heap.size W w' := by
  have HD := Lib.hid hd
  rcases hd with rfl | ⟨b, rfl, hb⟩
  · go_enter Try.func43, Try.ntmps43
    go_wp2
    go_ret2
    exact ⟨rfl, by first | exact hbb | exact Below.refl _ _⟩
  · obtain ⟨x0, x1, x2, x3, x4⟩ := boxed5 hb
    go_enter Try.func43, Try.ntmps43
    go_wp2
    go_ret2
    exact ⟨rfl, by first | exact hbb | exact Below.refl _ _⟩
set_option maxHeartbeats 4000000 in
theorem state_z {W : World} {v : Value} (hd : Dead W v) (who : Int) : Calls Try.prog 16 #[v, .int .i64 who] W fun e w' => e = .returned (.tuple #[.int .i64 0, .bool false]) ∧ Below W.heap.size W w' := by
  have HD := Lib.hid hd
  rcases hd with rfl | ⟨b, rfl, hb⟩
  · go_enter Try.func16, Try.ntmps16
    go_wp2_with (first
      | (go_at_call 43; (with_reducible refine (of_z HD.out who).mono ?_); rintro e w2 ⟨rfl, hbb⟩))
    go_ret2
    exact ⟨rfl, by first | exact hbb | exact Below.refl _ _⟩
  · obtain ⟨x0, x1, x2, x3, x4⟩ := boxed5 hb
    go_enter Try.func16, Try.ntmps16
    go_wp2_with (first
      | (go_at_call 43; (with_reducible refine (of_z HD.out who).mono ?_); rintro e w2 ⟨rfl, hbb⟩))
    go_ret2
    exact ⟨rfl, by first | exact hbb | exact Below.refl _ _⟩
set_option maxHeartbeats 4000000 in
theorem locked_z {W : World} {v : Value} (hd : Dead W v) (who : Int) : Calls Try.prog 17 #[v, .int .i64 who] W fun e w' => e = .returned (.int .i64 0) ∧ Below W.heap.size W w' := by
  have HD := Lib.hid hd
  rcases hd with rfl | ⟨b, rfl, hb⟩
  · go_enter Try.func17, Try.ntmps17
    go_wp2_with (first
      | (go_at_call 43; (with_reducible refine (of_z HD.out who).mono ?_); rintro e w2 ⟨rfl, hbb⟩))
    go_ret
    exact ⟨rfl, by first | exact hbb | exact Below.refl _ _⟩
  · obtain ⟨x0, x1, x2, x3, x4⟩ := boxed5 hb
    go_enter Try.func17, Try.ntmps17
    go_wp2_with (first
      | (go_at_call 43; (with_reducible refine (of_z HD.out who).mono ?_); rintro e w2 ⟨rfl, hbb⟩))
    go_ret
    exact ⟨rfl, by first | exact hbb | exact Below.refl _ _⟩
set_option maxHeartbeats 4000000 in
theorem knock_z {W : World} {v : Value} (hd : Dead W v) (who conn : Int) : Calls Try.prog 25 #[v, .int .i64 who, .int .i64 conn] W fun e w' => e = .returned (.tuple #[.bool false, .int .i64 6]) ∧ Below W.heap.size W w' := by
  have HD := Lib.hid hd
  rcases hd with rfl | ⟨b, rfl, hb⟩
  · go_enter Try.func25, Try.ntmps25
    go_wp2_with (first
      | (go_at_call 43; (with_reducible refine (of_z HD.out who).mono ?_); rintro e w2 ⟨rfl, hbb⟩))
    go_ret2
    exact ⟨rfl, by first | exact hbb | exact Below.refl _ _⟩
  · obtain ⟨x0, x1, x2, x3, x4⟩ := boxed5 hb
    go_enter Try.func25, Try.ntmps25
    go_wp2_with (first
      | (go_at_call 43; (with_reducible refine (of_z HD.out who).mono ?_); rintro e w2 ⟨rfl, hbb⟩))
    go_ret2
    exact ⟨rfl, by first | exact hbb | exact Below.refl _ _⟩
set_option maxHeartbeats 4000000 in
theorem wrong_z {W : World} {v : Value} (hd : Dead W v) (who : Int) : Calls Try.prog 20 #[v, .int .i64 who] W fun e w' => e = .returned (.int .i64 6) ∧ Below W.heap.size W w' := by
  have HD := Lib.hid hd
  rcases hd with rfl | ⟨b, rfl, hb⟩
  · go_enter Try.func20, Try.ntmps20
    go_wp2_with (first
      | (go_at_call 43; (with_reducible refine (of_z HD.out who).mono ?_); rintro e w2 ⟨rfl, hbb⟩))
    go_ret
    exact ⟨rfl, by first | exact hbb | exact Below.refl _ _⟩
  · obtain ⟨x0, x1, x2, x3, x4⟩ := boxed5 hb
    go_enter Try.func20, Try.ntmps20
    go_wp2_with (first
      | (go_at_call 43; (with_reducible refine (of_z HD.out who).mono ?_); rintro e w2 ⟨rfl, hbb⟩))
    go_ret
    exact ⟨rfl, by first | exact hbb | exact Below.refl _ _⟩
set_option maxHeartbeats 4000000 in
theorem open_z {W : World} {v : Value} (hd : Dead W v) (who : Int) : Calls Try.prog 22 #[v, .int .i64 who] W fun e w' => e = .returned (.int .i64 6) ∧ Below W.heap.size W w' := by
  have HD := Lib.hid hd
  rcases hd with rfl | ⟨b, rfl, hb⟩
  · go_enter Try.func22, Try.ntmps22
    go_wp2_with (first
      | (go_at_call 43; (with_reducible refine (of_z HD.out who).mono ?_); rintro e w2 ⟨rfl, hbb⟩))
    go_ret
    exact ⟨rfl, by first | exact hbb | exact Below.refl _ _⟩
  · obtain ⟨x0, x1, x2, x3, x4⟩ := boxed5 hb
    go_enter Try.func22, Try.ntmps22
    go_wp2_with (first
      | (go_at_call 43; (with_reducible refine (of_z HD.out who).mono ?_); rintro e w2 ⟨rfl, hbb⟩))
    go_ret
    exact ⟨rfl, by first | exact hbb | exact Below.refl _ _⟩
set_option maxHeartbeats 4000000 in
theorem heard_z {W : World} {v : Value} (hd : Dead W v) (who : Int) : Calls Try.prog 23 #[v, .int .i64 who] W fun e w' => e = .returned (.int .i64 6) ∧ Below W.heap.size W w' := by
  have HD := Lib.hid hd
  rcases hd with rfl | ⟨b, rfl, hb⟩
  · go_enter Try.func23, Try.ntmps23
    go_wp2_with (first
      | (go_at_call 43; (with_reducible refine (of_z HD.out who).mono ?_); rintro e w2 ⟨rfl, hbb⟩))
    go_ret
    exact ⟨rfl, by first | exact hbb | exact Below.refl _ _⟩
  · obtain ⟨x0, x1, x2, x3, x4⟩ := boxed5 hb
    go_enter Try.func23, Try.ntmps23
    go_wp2_with (first
      | (go_at_call 43; (with_reducible refine (of_z HD.out who).mono ?_); rintro e w2 ⟨rfl, hbb⟩))
    go_ret
    exact ⟨rfl, by first | exact hbb | exact Below.refl _ _⟩
set_option maxHeartbeats 4000000 in
theorem shut_z {W : World} {v : Value} (hd : Dead W v) (who : Int) : Calls Try.prog 42 #[v, .int .i64 who] W fun e w' => e = .returned (.int .i64 6) ∧ Below W.heap.size W w' := by
  have HD := Lib.hid hd
  rcases hd with rfl | ⟨b, rfl, hb⟩
  · go_enter Try.func42, Try.ntmps42
    go_wp2_with (first
      | (go_at_call 43; (with_reducible refine (of_z HD.out who).mono ?_); rintro e w2 ⟨rfl, hbb⟩))
    go_ret
    exact ⟨rfl, by first | exact hbb | exact Below.refl _ _⟩
  · obtain ⟨x0, x1, x2, x3, x4⟩ := boxed5 hb
    go_enter Try.func42, Try.ntmps42
    go_wp2_with (first
      | (go_at_call 43; (with_reducible refine (of_z HD.out who).mono ?_); rintro e w2 ⟨rfl, hbb⟩))
    go_ret
    exact ⟨rfl, by first | exact hbb | exact Below.refl _ _⟩
set_option maxHeartbeats 4000000 in
theorem begin_z {W : World} {v : Value} (hd : Dead W v) (who conn : Int) : Calls Try.prog 19 #[v, .int .i64 who, .int .i64 conn] W fun e w' => e = .returned (.int .i64 6) ∧ Below W.heap.size W w' := by
  have HD := Lib.hid hd
  rcases hd with rfl | ⟨b, rfl, hb⟩
  · go_enter Try.func19, Try.ntmps19
    go_wp2_with (first
      | (go_at_call 25; (with_reducible refine (knock_z HD.out who conn).mono ?_); rintro e w2 ⟨rfl, hbb⟩))
    go_ret
    exact ⟨rfl, by first | exact hbb | exact Below.refl _ _⟩
  · obtain ⟨x0, x1, x2, x3, x4⟩ := boxed5 hb
    go_enter Try.func19, Try.ntmps19
    go_wp2_with (first
      | (go_at_call 25; (with_reducible refine (knock_z HD.out who conn).mono ?_); rintro e w2 ⟨rfl, hbb⟩))
    go_ret
    exact ⟨rfl, by first | exact hbb | exact Below.refl _ _⟩
set_option maxHeartbeats 4000000 in
theorem tick_z {W : World} {v : Value} (hd : Dead W v) : Calls Try.prog 21 #[v] W fun e w' => e = .returned (.slice none 0 0) ∧ Below W.heap.size W w' := by
  have HD := Lib.hid hd
  rcases hd with rfl | ⟨b, rfl, hb⟩
  · go_enter Try.func21, Try.ntmps21
    go_wp2
    go_ret
    exact ⟨rfl, by first | exact hbb | exact Below.refl _ _⟩
  · obtain ⟨x0, x1, x2, x3, x4⟩ := boxed5 hb
    go_enter Try.func21, Try.ntmps21
    go_wp2
    go_ret
    exact ⟨rfl, by first | exact hbb | exact Below.refl _ _⟩
set_option maxHeartbeats 4000000 in
theorem seats_z {W : World} {v : Value} (hd : Dead W v) (label : Int) : Calls Try.prog 15 #[v, .int .i64 label] W fun e w' => e = .returned (.int .i64 0) ∧ Below W.heap.size W w' := by
  rcases hd with rfl | ⟨b, rfl, hb⟩
  · go_enter Try.func15, Try.ntmps15
    go_wp2
    go_ret
    exact ⟨rfl, Below.refl _ _⟩
  · obtain ⟨x0, x1, x2, x3, x4⟩ := boxed5 hb
    go_enter Try.func15, Try.ntmps15
    go_wp2
    go_loopw [5, 16] (fun s i wr => s = .int .i64 0 ∧ i = .int .i64 0 ∧ Below W.heap.size W wr) (fun _ _ _ => 0)
    case atStart => exact ⟨rfl, rfl, Below.refl _ _⟩
    case round =>
      obtain ⟨rfl, rfl, hB⟩ := hrel
      go_wp2
      go_ret
      exact ⟨rfl, hB⟩
set_option maxHeartbeats 8000000 in
theorem doesz_2 {W : World} {v : Value} (hd : Dead W v) (op who conn n : Int) (hm : bits BinOp.and IntKind.i64 op 7 = 2) : Calls Try.prog 14 #[v, .agg #[.int .i64 op, .int .i64 who, .int .i64 conn, .int .i64 n]] W fun e w' => e = .returned (.tuple #[.slice none 0 0, .int .i64 6]) ∧ Below W.heap.size W w' := by
  have E2 : (bits BinOp.and IntKind.i64 op 7 == 2) = true := by rw [hm]; rfl
  have E3 : (bits BinOp.and IntKind.i64 op 7 == 3) = false := by rw [hm]; rfl
  have E4 : (bits BinOp.and IntKind.i64 op 7 == 4) = false := by rw [hm]; rfl
  have E5 : (bits BinOp.and IntKind.i64 op 7 == 5) = false := by rw [hm]; rfl
  have E6 : (bits BinOp.and IntKind.i64 op 7 == 6) = false := by rw [hm]; rfl
  have E7 : (bits BinOp.and IntKind.i64 op 7 == 7) = false := by rw [hm]; rfl
  have H := Lib.hid (hd.below (below_alloc (Below.refl _ _) (.cells #[.int .i64 op, .int .i64 who, .int .i64 conn, .int .i64 n] 36)))
  clear hm hd
  go_enter Try.func14, Try.ntmps14
  go_wp2_with (first
    | (go_at_call 20; (with_reducible refine (wrong_z H.out who).mono ?_); rintro e w2 ⟨rfl, hbb⟩))
  go_ret2
  exact ⟨rfl, below_step (below_alloc (Below.refl _ _) _) hbb⟩
set_option maxHeartbeats 8000000 in
theorem doesz_3 {W : World} {v : Value} (hd : Dead W v) (op who conn n : Int) (hm : bits BinOp.and IntKind.i64 op 7 = 3) : Calls Try.prog 14 #[v, .agg #[.int .i64 op, .int .i64 who, .int .i64 conn, .int .i64 n]] W fun e w' => e = .returned (.tuple #[.slice none 0 0, .int .i64 6]) ∧ Below W.heap.size W w' := by
  have E2 : (bits BinOp.and IntKind.i64 op 7 == 2) = false := by rw [hm]; rfl
  have E3 : (bits BinOp.and IntKind.i64 op 7 == 3) = true := by rw [hm]; rfl
  have E4 : (bits BinOp.and IntKind.i64 op 7 == 4) = false := by rw [hm]; rfl
  have E5 : (bits BinOp.and IntKind.i64 op 7 == 5) = false := by rw [hm]; rfl
  have E6 : (bits BinOp.and IntKind.i64 op 7 == 6) = false := by rw [hm]; rfl
  have E7 : (bits BinOp.and IntKind.i64 op 7 == 7) = false := by rw [hm]; rfl
  have H := Lib.hid (hd.below (below_alloc (Below.refl _ _) (.cells #[.int .i64 op, .int .i64 who, .int .i64 conn, .int .i64 n] 36)))
  clear hm hd
  go_enter Try.func14, Try.ntmps14
  go_wp2_with (first
    | (go_at_call 22; (with_reducible refine (open_z H.out who).mono ?_); rintro e w2 ⟨rfl, hbb⟩))
  go_ret2
  exact ⟨rfl, below_step (below_alloc (Below.refl _ _) _) hbb⟩
set_option maxHeartbeats 8000000 in
theorem doesz_4 {W : World} {v : Value} (hd : Dead W v) (op who conn n : Int) (hm : bits BinOp.and IntKind.i64 op 7 = 4) : Calls Try.prog 14 #[v, .agg #[.int .i64 op, .int .i64 who, .int .i64 conn, .int .i64 n]] W fun e w' => e = .returned (.tuple #[.slice none 0 0, .int .i64 6]) ∧ Below W.heap.size W w' := by
  have E2 : (bits BinOp.and IntKind.i64 op 7 == 2) = false := by rw [hm]; rfl
  have E3 : (bits BinOp.and IntKind.i64 op 7 == 3) = false := by rw [hm]; rfl
  have E4 : (bits BinOp.and IntKind.i64 op 7 == 4) = true := by rw [hm]; rfl
  have E5 : (bits BinOp.and IntKind.i64 op 7 == 5) = false := by rw [hm]; rfl
  have E6 : (bits BinOp.and IntKind.i64 op 7 == 6) = false := by rw [hm]; rfl
  have E7 : (bits BinOp.and IntKind.i64 op 7 == 7) = false := by rw [hm]; rfl
  have H := Lib.hid (hd.below (below_alloc (Below.refl _ _) (.cells #[.int .i64 op, .int .i64 who, .int .i64 conn, .int .i64 n] 36)))
  clear hm hd
  go_enter Try.func14, Try.ntmps14
  go_wp2_with (first
    | (go_at_call 22; (with_reducible refine (open_z H.out who).mono ?_); rintro e w2 ⟨rfl, hbb⟩))
  go_ret2
  exact ⟨rfl, below_step (below_alloc (Below.refl _ _) _) hbb⟩
set_option maxHeartbeats 8000000 in
theorem doesz_5 {W : World} {v : Value} (hd : Dead W v) (op who conn n : Int) (hm : bits BinOp.and IntKind.i64 op 7 = 5) : Calls Try.prog 14 #[v, .agg #[.int .i64 op, .int .i64 who, .int .i64 conn, .int .i64 n]] W fun e w' => e = .returned (.tuple #[.slice none 0 0, .int .i64 6]) ∧ Below W.heap.size W w' := by
  have E2 : (bits BinOp.and IntKind.i64 op 7 == 2) = false := by rw [hm]; rfl
  have E3 : (bits BinOp.and IntKind.i64 op 7 == 3) = false := by rw [hm]; rfl
  have E4 : (bits BinOp.and IntKind.i64 op 7 == 4) = false := by rw [hm]; rfl
  have E5 : (bits BinOp.and IntKind.i64 op 7 == 5) = true := by rw [hm]; rfl
  have E6 : (bits BinOp.and IntKind.i64 op 7 == 6) = false := by rw [hm]; rfl
  have E7 : (bits BinOp.and IntKind.i64 op 7 == 7) = false := by rw [hm]; rfl
  have H := Lib.hid (hd.below (below_alloc (Below.refl _ _) (.cells #[.int .i64 op, .int .i64 who, .int .i64 conn, .int .i64 n] 36)))
  clear hm hd
  go_enter Try.func14, Try.ntmps14
  go_wp2_with (first
    | (go_at_call 23; (with_reducible refine (heard_z H.out who).mono ?_); rintro e w2 ⟨rfl, hbb⟩))
  go_ret2
  exact ⟨rfl, below_step (below_alloc (Below.refl _ _) _) hbb⟩
set_option maxHeartbeats 8000000 in
theorem doesz_6 {W : World} {v : Value} (hd : Dead W v) (op who conn n : Int) (hm : bits BinOp.and IntKind.i64 op 7 = 6) : Calls Try.prog 14 #[v, .agg #[.int .i64 op, .int .i64 who, .int .i64 conn, .int .i64 n]] W fun e w' => e = .returned (.tuple #[.slice none 0 0, .int .i64 6]) ∧ Below W.heap.size W w' := by
  have E2 : (bits BinOp.and IntKind.i64 op 7 == 2) = false := by rw [hm]; rfl
  have E3 : (bits BinOp.and IntKind.i64 op 7 == 3) = false := by rw [hm]; rfl
  have E4 : (bits BinOp.and IntKind.i64 op 7 == 4) = false := by rw [hm]; rfl
  have E5 : (bits BinOp.and IntKind.i64 op 7 == 5) = false := by rw [hm]; rfl
  have E6 : (bits BinOp.and IntKind.i64 op 7 == 6) = true := by rw [hm]; rfl
  have E7 : (bits BinOp.and IntKind.i64 op 7 == 7) = false := by rw [hm]; rfl
  have H := Lib.hid (hd.below (below_alloc (Below.refl _ _) (.cells #[.int .i64 op, .int .i64 who, .int .i64 conn, .int .i64 n] 36)))
  clear hm hd
  go_enter Try.func14, Try.ntmps14
  go_wp2_with (first
    | (go_at_call 42; (with_reducible refine (shut_z H.out who).mono ?_); rintro e w2 ⟨rfl, hbb⟩))
  go_ret2
  exact ⟨rfl, below_step (below_alloc (Below.refl _ _) _) hbb⟩
set_option maxHeartbeats 8000000 in
theorem doesz_0 {W : World} {v : Value} (hd : Dead W v) (op who conn n : Int) (h2 : ¬ bits BinOp.and IntKind.i64 op 7 = 2) (h3 : ¬ bits BinOp.and IntKind.i64 op 7 = 3) (h4 : ¬ bits BinOp.and IntKind.i64 op 7 = 4) (h5 : ¬ bits BinOp.and IntKind.i64 op 7 = 5) (h6 : ¬ bits BinOp.and IntKind.i64 op 7 = 6) (h7 : ¬ bits BinOp.and IntKind.i64 op 7 = 7) : Calls Try.prog 14 #[v, .agg #[.int .i64 op, .int .i64 who, .int .i64 conn, .int .i64 n]] W fun e w' => e = .returned (.tuple #[.slice none 0 0, .int .i64 6]) ∧ Below W.heap.size W w' := by
  have E2 : (bits BinOp.and IntKind.i64 op 7 == 2) = false := by simpa using h2
  have E3 : (bits BinOp.and IntKind.i64 op 7 == 3) = false := by simpa using h3
  have E4 : (bits BinOp.and IntKind.i64 op 7 == 4) = false := by simpa using h4
  have E5 : (bits BinOp.and IntKind.i64 op 7 == 5) = false := by simpa using h5
  have E6 : (bits BinOp.and IntKind.i64 op 7 == 6) = false := by simpa using h6
  have E7 : (bits BinOp.and IntKind.i64 op 7 == 7) = false := by simpa using h7
  have H := Lib.hid (hd.below (below_alloc (Below.refl _ _) (.cells #[.int .i64 op, .int .i64 who, .int .i64 conn, .int .i64 n] 36)))
  clear h2 h3 h4 h5 h6 h7 hd
  go_enter Try.func14, Try.ntmps14
  go_wp2_with (first
    | (go_at_call 19; (with_reducible refine (begin_z H.out who conn).mono ?_); rintro e w2 ⟨rfl, hbb⟩))
  go_ret2
  exact ⟨rfl, below_step (below_alloc (Below.refl _ _) _) hbb⟩
set_option maxHeartbeats 8000000 in
theorem doesz_7 {W : World} {v : Value} (hd : Dead W v) (op who conn n : Int) (hm : bits BinOp.and IntKind.i64 op 7 = 7) {N : Nat} (hN : Hid ((Do.mk op who conn n).timesI = (N : Int))) (hN25 : N ≤ 25) : Calls Try.prog 14 #[v, .agg #[.int .i64 op, .int .i64 who, .int .i64 conn, .int .i64 n]] W fun e w' => ∃ u, e = .returned (.tuple #[u, .int .i64 0]) ∧ Below W.heap.size W w' := by
  have E2 : (bits BinOp.and IntKind.i64 op 7 == 2) = false := by rw [hm]; rfl
  have E3 : (bits BinOp.and IntKind.i64 op 7 == 3) = false := by rw [hm]; rfl
  have E4 : (bits BinOp.and IntKind.i64 op 7 == 4) = false := by rw [hm]; rfl
  have E5 : (bits BinOp.and IntKind.i64 op 7 == 5) = false := by rw [hm]; rfl
  have E6 : (bits BinOp.and IntKind.i64 op 7 == 6) = false := by rw [hm]; rfl
  have E7 : (bits BinOp.and IntKind.i64 op 7 == 7) = true := by rw [hm]; rfl
  have H := Lib.hid (hd.below (below_alloc (Below.refl _ _) (.cells #[.int .i64 op, .int .i64 who, .int .i64 conn, .int .i64 n] 36)))
  clear hd hm
  have hT : ∀ w : World, Calls Try.prog 32 #[.agg #[.int .i64 op, .int .i64 who, .int .i64 conn, .int .i64 n]] w fun e w' => e = .returned (.int .i64 N) ∧ Below w.heap.size w w' := fun w => sealskinlaw18_Do_times.calls op who conn n N w (congrArg some hN.out)
  have HT := Lib.hid hT
  clear hT
  go_enter Try.func14, Try.ntmps14
  go_wp2_with (first
    | (go_at_call 32; (with_reducible refine (HT.out _).mono ?_); rintro e w2 ⟨rfl, hbb⟩; have B1 := Lib.hid (below_step (below_alloc (Below.refl W.heap.size W) _) hbb); have D1 := Lib.hid (H.out.below hbb)))
  go_loopw [6, 39] (fun u i wr => ∃ k : Nat, k ≤ N ∧ i = .int .i64 k ∧ Hid (Kd.R (Kd.int .i64) 3 wr W.heap.size (fun _ => True) u []) ∧ Hid (Below W.heap.size W wr) ∧ Hid (Dead wr v)) (fun _ i _ => N - (intOf i).toNat)
  case atStart => exact ⟨0, Nat.zero_le _, rfl, Lib.hid (Kd.R_nil _ _ _ _ _), B1, D1⟩
  case round =>
    obtain ⟨k, hk, rfl, HO, HB, HD⟩ := hrel
    by_cases hlt : k < N
    · go_wp2_with (first
        | (go_at_call 21; (with_reducible refine (tick_z HD.out).mono ?_); rintro e w3 ⟨rfl, hb3⟩; have HO2 := Lib.hid (Kd.R_below HO.out hb3); have HB2 := Lib.hid (below_step HB.out hb3); have HD2 := Lib.hid (HD.out.below hb3))
        | ((with_reducible refine gate_builtin (b := .append) (xs := #[.tmp 41, .tmp 43]) rfl ?_); at_builtin; refine Hid.out ?_))
      refine Lib.hid ?_
      refine Kd.R_append_rows (Kd.int .i64) (w0 := W) W.heap.size rfl (.tmp 41) (.tmp 43) 37 3 (.int .i64 0) 8 rfl Try.underlying37 (by kernel_rfl) rfl (by decide) (by omega) u6 [] [] none 0 0 (fun _ => True) (fun _ => False) rfl rfl ?aO (Reps_nil _ _ _) K_M_int (fun _ hk => hk.elim) (fun _ _ => trivial) ?aB ?aS ?aL ?_
      case aO => exact HO2.out
      case aB => exact HB2.out
      case aS => exact HB2.out.size
      case aL => simp
      intro v1 w1 hor hb hgr hat
      go_wp2
      go_roundw
      case rel => exact ⟨k + 1, by omega, by go_num, Lib.hid hor, Lib.hid hb, Lib.hid (dead_grown HD2.out HO2.out hgr)⟩
      case measure => simp [intOf]; omega
    · have hkl : k = N := by omega
      subst hkl
      go_wp2
      go_ret2
      exact ⟨_, rfl, HB.out⟩
theorem doesz {W : World} {v : Value} (hd : Dead W v) (k : Do) : Calls Try.prog 14 #[v, .agg #[.int .i64 k.op, .int .i64 k.who, .int .i64 k.conn, .int .i64 k.n]] W fun e w' => ∃ u, e = .returned (.tuple #[u, .int .i64 (if k.op7 = 7 then 0 else 6)]) ∧ Below W.heap.size W w' := by
  by_cases h7 : k.op7 = 7
  · rw [if_pos h7]
    have hle := k.times_le
    exact doesz_7 hd k.op k.who k.conn k.n h7 (Lib.hid (show k.timesI = (k.timesI.toNat : Int) by omega)) (by omega)
  rw [if_neg h7]
  by_cases h2 : k.op7 = 2
  · exact (doesz_2 hd k.op k.who k.conn k.n h2).mono fun e w' h => ⟨_, h.1, h.2⟩
  by_cases h3 : k.op7 = 3
  · exact (doesz_3 hd k.op k.who k.conn k.n h3).mono fun e w' h => ⟨_, h.1, h.2⟩
  by_cases h4 : k.op7 = 4
  · exact (doesz_4 hd k.op k.who k.conn k.n h4).mono fun e w' h => ⟨_, h.1, h.2⟩
  by_cases h5 : k.op7 = 5
  · exact (doesz_5 hd k.op k.who k.conn k.n h5).mono fun e w' h => ⟨_, h.1, h.2⟩
  by_cases h6 : k.op7 = 6
  · exact (doesz_6 hd k.op k.who k.conn k.n h6).mono fun e w' h => ⟨_, h.1, h.2⟩
  exact (doesz_0 hd k.op k.who k.conn k.n h2 h3 h4 h5 h6 h7).mono fun e w' h => ⟨_, h.1, h.2⟩
end Go.Proofs.Ytkfjolhlnhbgjaa.D
