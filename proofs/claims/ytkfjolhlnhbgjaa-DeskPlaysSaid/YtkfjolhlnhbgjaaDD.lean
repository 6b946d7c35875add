/- The law's does and made, by plain functions on the guests. Conditions: the desk is one that New made. -/
import Derived.Test.YtkfjolhlnhbgjaaDM
import Derived.Test.YtkfjolhlnhbgjaaPx6
import Derived.Test.YtkfjolhlnhbgjaaPx5
import Derived.Test.YtkfjolhlnhbgjaaPx4
import Derived.Test.YtkfjolhlnhbgjaaPx2
namespace Go.Proofs.Ytkfjolhlnhbgjaa.D
open Go.RowKit Go.Proofs.Ytkfjolhlnhbgjaa.P Go.Proofs.YtkfjolhlnhbgjaaBase Go.Proofs.YtkfjolhlnhbgjaaW.PrintWords Go.Proofs.YtkfjolhlnhbgjaaW.PrintLast Go.Proofs.Ytkfjolhlnhbgjaa.Q Go.Proofs.Ytkfjolhlnhbgjaa.L
set_option linter.unusedVariables false
set_option linter.unusedSimpArgs false

structure Do where
  op : Int
  who : Int
  conn : Int
  n : Int
def Do.v (k : Do) : Value := .agg #[.int .i64 k.op, .int .i64 k.who, .int .i64 k.conn, .int .i64 k.n]
def Do.op7 (k : Do) : Int := bits BinOp.and IntKind.i64 k.op 7
def Do.timesI (k : Do) : Int := wrap64 (1 + (wrap64 (Int.tmod (IntKind.u64.wrap k.n) 25)))
theorem Do.times_le (k : Do) : 1 ≤ k.timesI ∧ k.timesI ≤ 25 := by
  have h0 : 0 ≤ IntKind.u64.wrap k.n := by rw [IntKind.wrap_u64]; omega
  have h1 := Int.tmod_nonneg 25 h0
  have h2 := Int.tmod_lt_of_pos (IntKind.u64.wrap k.n) (show (0 : Int) < 25 by omega)
  unfold Do.timesI wrap64
  omega
def tickN (gs : List G) : Nat → List G × List Int
  | 0 => (gs, [])
  | n + 1 => (tickD (tickN gs n).1, (tickN gs n).2 ++ goneD (tickN gs n).1)
theorem tickN_good {p : Pol} {gs : List G} (h : Good p gs) (n : Nat) : Good p (tickN gs n).1 := by
  induction n with
  | zero => exact h
  | succ n ih => exact ih.tick
theorem tickN_len {p : Pol} {gs : List G} (h : Good p gs) (n : Nat) : (tickN gs n).2.length ≤ n * 8 := by
  induction n with
  | zero => simp [tickN]
  | succ n ih =>
    have h1 := goneK_len (tickN gs n).1 (tickN gs n).1.length
    have h2 := (tickN_good h n).n8
    simp only [tickN, goneD, List.length_append]
    omega
def doesD (p : Pol) (gs : List G) (k : Do) : List G × List Int × Int :=
  if k.op7 = 2 then ((wrongD gs k.who).1, [], (wrongD gs k.who).2)
  else if k.op7 = 3 ∨ k.op7 = 4 then ((openD p gs k.who).1, [], (openD p gs k.who).2)
  else if k.op7 = 5 then ((heardD gs k.who).1, [], (heardD gs k.who).2)
  else if k.op7 = 6 then ((shutD gs k.who).1, [], (shutD gs k.who).2)
  else if k.op7 = 7 then ((tickN gs k.timesI.toNat).1, (tickN gs k.timesI.toNat).2, 0)
  else ((beginD gs k.who k.conn).1, [], (beginD gs k.who k.conn).2)
theorem doesD_good {p : Pol} {gs : List G} (h : Good p gs) (k : Do) : Good p (doesD p gs k).1 := by
  unfold doesD
  split
  · exact h.upd _ _ (fun g hg => wrongF_good hg)
  split
  · exact h.upd _ _ (fun g hg => openF_good hg)
  split
  · exact h.upd _ _ (fun g hg => heardF_good hg)
  split
  · exact h.upd _ _ (fun g hg => shutF_good hg)
  split
  · exact tickN_good h _
  · exact h.upd _ _ (fun g hg => beginF_good hg)
theorem R_only {α : Type} {d : Kd α} {e base bl : Nat} {W w' : World} {v : Value} {l : List α} {cs : Array Value} {t : TypeId} {fr : Nat × Nat} (h : Kd.R d e W base (fun _ => True) v l) (hb : W.heap[bl]? = some (.cells cs t fr)) (hE : t ∉ e :: d.E) (ho : Only bl W w') : Kd.R d e w' base (fun _ => True) v l :=
  Kd.R_mono (Kd.R_step (Kd.R_bound h) (fun k hk hlt => ho.blk k hlt (by
    obtain ⟨_, _, _, q, hq, cells, hc⟩ := hk
    rintro rfl
    rw [hb] at hc
    simp only [Option.some.injEq, Obj.cells.injEq] at hc
    exact hE (hc.2.1 ▸ hq)))) (fun _ _ => trivial)
theorem only_alloc {bl : Nat} {W w' : World} {o : Obj} (h : Only bl (W.alloc o) w') : Only bl W w' := (Only.of (below_alloc (Below.refl _ _) o)).step h
/-- what does answers, and the desk behind it -/
def Done (n0 b : Nat) (p : Pol) (y : PAt) (bl : Nat) (W : World) (r : List G × List Int × Int) (e : Ending) (w' : World) : Prop := ∃ v, e = .returned (.tuple #[v, .int .i64 r.2.2]) ∧ Kd.R (Kd.int .i64) 3 w' W.heap.size (fun _ => True) v r.2.1 ∧ DeskAt n0 w' b p y bl r.1 ∧ Only bl W w'
theorem done_of {n0 b : Nat} {p : Pol} {y : PAt} {bl : Nat} {W w' : World} {o : Obj} {e : Ending} {gs : List G} {er : Int} (he : e = .returned (.tuple #[.slice none 0 0, .int .i64 er])) (hd : DeskAt n0 w' b p y bl gs) (ho : Only bl (W.alloc o) w') : Done n0 b p y bl W (gs, [], er) e w' :=
  ⟨_, he, Kd.R_nil _ _ _ _ _, hd, only_alloc ho⟩
theorem does_pre {n0 : Nat} {W : World} {b : Nat} {p : Pol} {y : PAt} {bl : Nat} {gs : List G} (h : DeskAt n0 W b p y bl gs) (o : Obj) : DeskAt n0 (W.alloc o) b p y bl gs := h.below (below_alloc (Below.refl _ _) o)
set_option maxHeartbeats 8000000 in
theorem does_2 {n0 : Nat} {W : World} {b : Nat} {p : Pol} {y : PAt} {bl : Nat} {gs : List G} (h : DeskAt n0 W b p y bl gs) (hg : Good p gs) (op who conn n : Int) (hm : bits BinOp.and IntKind.i64 op 7 = 2) : Calls Try.prog 14 #[.pointer (some ⟨b, 0, none⟩), .agg #[.int .i64 op, .int .i64 who, .int .i64 conn, .int .i64 n]] W (Done n0 b p y bl W ((wrongD gs who).1, [], (wrongD gs who).2)) := by
  have E2 : (bits BinOp.and IntKind.i64 op 7 == 2) = true := by rw [hm]; rfl
  have E3 : (bits BinOp.and IntKind.i64 op 7 == 3) = false := by rw [hm]; rfl
  have E4 : (bits BinOp.and IntKind.i64 op 7 == 4) = false := by rw [hm]; rfl
  have E5 : (bits BinOp.and IntKind.i64 op 7 == 5) = false := by rw [hm]; rfl
  have E6 : (bits BinOp.and IntKind.i64 op 7 == 6) = false := by rw [hm]; rfl
  have E7 : (bits BinOp.and IntKind.i64 op 7 == 7) = false := by rw [hm]; rfl
  have H := Lib.hid h
  have HG := Lib.hid hg
  clear h hg hm
  go_enter Try.func14, Try.ntmps14
  go_wp2_with (first
    | (go_at_call 20; (with_reducible refine (wrong_c (does_pre H.out _) HG.out who).mono ?_); rintro e w2 ⟨rfl, hd, ho⟩))
  go_ret2
  exact done_of rfl hd ho
set_option maxHeartbeats 8000000 in
theorem does_3 {n0 : Nat} {W : World} {b : Nat} {p : Pol} {y : PAt} {bl : Nat} {gs : List G} (h : DeskAt n0 W b p y bl gs) (hg : Good p gs) (op who conn n : Int) (hm : bits BinOp.and IntKind.i64 op 7 = 3) : Calls Try.prog 14 #[.pointer (some ⟨b, 0, none⟩), .agg #[.int .i64 op, .int .i64 who, .int .i64 conn, .int .i64 n]] W (Done n0 b p y bl W ((openD p gs who).1, [], (openD p gs who).2)) := by
  have E2 : (bits BinOp.and IntKind.i64 op 7 == 2) = false := by rw [hm]; rfl
  have E3 : (bits BinOp.and IntKind.i64 op 7 == 3) = true := by rw [hm]; rfl
  have E4 : (bits BinOp.and IntKind.i64 op 7 == 4) = false := by rw [hm]; rfl
  have E5 : (bits BinOp.and IntKind.i64 op 7 == 5) = false := by rw [hm]; rfl
  have E6 : (bits BinOp.and IntKind.i64 op 7 == 6) = false := by rw [hm]; rfl
  have E7 : (bits BinOp.and IntKind.i64 op 7 == 7) = false := by rw [hm]; rfl
  have H := Lib.hid h
  have HG := Lib.hid hg
  clear h hg hm
  go_enter Try.func14, Try.ntmps14
  go_wp2_with (first
    | (go_at_call 22; (with_reducible refine (open_c (does_pre H.out _) HG.out who).mono ?_); rintro e w2 ⟨rfl, hd, ho⟩))
  go_ret2
  exact done_of rfl hd ho
set_option maxHeartbeats 8000000 in
theorem does_4 {n0 : Nat} {W : World} {b : Nat} {p : Pol} {y : PAt} {bl : Nat} {gs : List G} (h : DeskAt n0 W b p y bl gs) (hg : Good p gs) (op who conn n : Int) (hm : bits BinOp.and IntKind.i64 op 7 = 4) : Calls Try.prog 14 #[.pointer (some ⟨b, 0, none⟩), .agg #[.int .i64 op, .int .i64 who, .int .i64 conn, .int .i64 n]] W (Done n0 b p y bl W ((openD p gs who).1, [], (openD p gs who).2)) := by
  have E2 : (bits BinOp.and IntKind.i64 op 7 == 2) = false := by rw [hm]; rfl
  have E3 : (bits BinOp.and IntKind.i64 op 7 == 3) = false := by rw [hm]; rfl
  have E4 : (bits BinOp.and IntKind.i64 op 7 == 4) = true := by rw [hm]; rfl
  have E5 : (bits BinOp.and IntKind.i64 op 7 == 5) = false := by rw [hm]; rfl
  have E6 : (bits BinOp.and IntKind.i64 op 7 == 6) = false := by rw [hm]; rfl
  have E7 : (bits BinOp.and IntKind.i64 op 7 == 7) = false := by rw [hm]; rfl
  have H := Lib.hid h
  have HG := Lib.hid hg
  clear h hg hm
  go_enter Try.func14, Try.ntmps14
  go_wp2_with (first
    | (go_at_call 22; (with_reducible refine (open_c (does_pre H.out _) HG.out who).mono ?_); rintro e w2 ⟨rfl, hd, ho⟩))
  go_ret2
  exact done_of rfl hd ho
set_option maxHeartbeats 8000000 in
theorem does_5 {n0 : Nat} {W : World} {b : Nat} {p : Pol} {y : PAt} {bl : Nat} {gs : List G} (h : DeskAt n0 W b p y bl gs) (hg : Good p gs) (op who conn n : Int) (hm : bits BinOp.and IntKind.i64 op 7 = 5) : Calls Try.prog 14 #[.pointer (some ⟨b, 0, none⟩), .agg #[.int .i64 op, .int .i64 who, .int .i64 conn, .int .i64 n]] W (Done n0 b p y bl W ((heardD gs who).1, [], (heardD gs who).2)) := by
  have E2 : (bits BinOp.and IntKind.i64 op 7 == 2) = false := by rw [hm]; rfl
  have E3 : (bits BinOp.and IntKind.i64 op 7 == 3) = false := by rw [hm]; rfl
  have E4 : (bits BinOp.and IntKind.i64 op 7 == 4) = false := by rw [hm]; rfl
  have E5 : (bits BinOp.and IntKind.i64 op 7 == 5) = true := by rw [hm]; rfl
  have E6 : (bits BinOp.and IntKind.i64 op 7 == 6) = false := by rw [hm]; rfl
  have E7 : (bits BinOp.and IntKind.i64 op 7 == 7) = false := by rw [hm]; rfl
  have H := Lib.hid h
  have HG := Lib.hid hg
  clear h hg hm
  go_enter Try.func14, Try.ntmps14
  go_wp2_with (first
    | (go_at_call 23; (with_reducible refine (heard_c (does_pre H.out _) HG.out who).mono ?_); rintro e w2 ⟨rfl, hd, ho⟩))
  go_ret2
  exact done_of rfl hd ho
set_option maxHeartbeats 8000000 in
theorem does_6 {n0 : Nat} {W : World} {b : Nat} {p : Pol} {y : PAt} {bl : Nat} {gs : List G} (h : DeskAt n0 W b p y bl gs) (hg : Good p gs) (op who conn n : Int) (hm : bits BinOp.and IntKind.i64 op 7 = 6) : Calls Try.prog 14 #[.pointer (some ⟨b, 0, none⟩), .agg #[.int .i64 op, .int .i64 who, .int .i64 conn, .int .i64 n]] W (Done n0 b p y bl W ((shutD gs who).1, [], (shutD gs who).2)) := by
  have E2 : (bits BinOp.and IntKind.i64 op 7 == 2) = false := by rw [hm]; rfl
  have E3 : (bits BinOp.and IntKind.i64 op 7 == 3) = false := by rw [hm]; rfl
  have E4 : (bits BinOp.and IntKind.i64 op 7 == 4) = false := by rw [hm]; rfl
  have E5 : (bits BinOp.and IntKind.i64 op 7 == 5) = false := by rw [hm]; rfl
  have E6 : (bits BinOp.and IntKind.i64 op 7 == 6) = true := by rw [hm]; rfl
  have E7 : (bits BinOp.and IntKind.i64 op 7 == 7) = false := by rw [hm]; rfl
  have H := Lib.hid h
  have HG := Lib.hid hg
  clear h hg hm
  go_enter Try.func14, Try.ntmps14
  go_wp2_with (first
    | (go_at_call 42; (with_reducible refine (shut_c (does_pre H.out _) HG.out who).mono ?_); rintro e w2 ⟨rfl, hd, ho⟩))
  go_ret2
  exact done_of rfl hd ho
set_option maxHeartbeats 8000000 in
theorem does_0 {n0 : Nat} {W : World} {b : Nat} {p : Pol} {y : PAt} {bl : Nat} {gs : List G} (h : DeskAt n0 W b p y bl gs) (hg : Good p gs) (op who conn n : Int) (h2 : ¬ bits BinOp.and IntKind.i64 op 7 = 2) (h3 : ¬ bits BinOp.and IntKind.i64 op 7 = 3) (h4 : ¬ bits BinOp.and IntKind.i64 op 7 = 4) (h5 : ¬ bits BinOp.and IntKind.i64 op 7 = 5) (h6 : ¬ bits BinOp.and IntKind.i64 op 7 = 6) (h7 : ¬ bits BinOp.and IntKind.i64 op 7 = 7) : Calls Try.prog 14 #[.pointer (some ⟨b, 0, none⟩), .agg #[.int .i64 op, .int .i64 who, .int .i64 conn, .int .i64 n]] W (Done n0 b p y bl W ((beginD gs who conn).1, [], (beginD gs who conn).2)) := by
  have E2 : (bits BinOp.and IntKind.i64 op 7 == 2) = false := by simpa using h2
  have E3 : (bits BinOp.and IntKind.i64 op 7 == 3) = false := by simpa using h3
  have E4 : (bits BinOp.and IntKind.i64 op 7 == 4) = false := by simpa using h4
  have E5 : (bits BinOp.and IntKind.i64 op 7 == 5) = false := by simpa using h5
  have E6 : (bits BinOp.and IntKind.i64 op 7 == 6) = false := by simpa using h6
  have E7 : (bits BinOp.and IntKind.i64 op 7 == 7) = false := by simpa using h7
  have H := Lib.hid h
  have HG := Lib.hid hg
  clear h hg h2 h3 h4 h5 h6 h7
  go_enter Try.func14, Try.ntmps14
  go_wp2_with (first
    | (go_at_call 19; (with_reducible refine (begin_c (does_pre H.out _) HG.out who conn).mono ?_); rintro e w2 ⟨rfl, hd, ho⟩))
  go_ret2
  exact done_of rfl hd ho
theorem K_M_int {W : World} {base : Nat} {ok : Nat → Prop} (x : Int) (cs : List Value) (h : (Kd.int .i64).K W x cs) : (Kd.int .i64).M W base ok x cs := h
set_option maxHeartbeats 8000000 in
theorem does_7 {n0 : Nat} {W : World} {b : Nat} {p : Pol} {y : PAt} {bl : Nat} {gs : List G} (h : DeskAt n0 W b p y bl gs) (hg : Good p gs) (op who conn n : Int) (hm : bits BinOp.and IntKind.i64 op 7 = 7) {N : Nat} (hN : Hid ((Do.mk op who conn n).timesI = (N : Int))) (hN25 : N ≤ 25) : Calls Try.prog 14 #[.pointer (some ⟨b, 0, none⟩), .agg #[.int .i64 op, .int .i64 who, .int .i64 conn, .int .i64 n]] W (Done n0 b p y bl W ((tickN gs N).1, (tickN gs N).2, 0)) := by
  have E2 : (bits BinOp.and IntKind.i64 op 7 == 2) = false := by rw [hm]; rfl
  have E3 : (bits BinOp.and IntKind.i64 op 7 == 3) = false := by rw [hm]; rfl
  have E4 : (bits BinOp.and IntKind.i64 op 7 == 4) = false := by rw [hm]; rfl
  have E5 : (bits BinOp.and IntKind.i64 op 7 == 5) = false := by rw [hm]; rfl
  have E6 : (bits BinOp.and IntKind.i64 op 7 == 6) = false := by rw [hm]; rfl
  have E7 : (bits BinOp.and IntKind.i64 op 7 == 7) = true := by rw [hm]; rfl
  have H := Lib.hid h
  have HG := Lib.hid hg
  clear h hg hm
  have hT : ∀ w : World, Calls Try.prog 32 #[.agg #[.int .i64 op, .int .i64 who, .int .i64 conn, .int .i64 n]] w fun e w' => e = .returned (.int .i64 N) ∧ Below w.heap.size w w' := fun w => sealskinlaw18_Do_times.calls op who conn n N w (congrArg some hN.out)
  have HT := Lib.hid hT
  clear hT
  go_enter Try.func14, Try.ntmps14
  go_wp2_with (first
    | (go_at_call 32; (with_reducible refine (HT.out _).mono ?_); rintro e w2 ⟨rfl, hbb⟩; have D1 := Lib.hid ((does_pre H.out _).below hbb); have ON1 := Lib.hid (only_alloc (Only.of (bl := bl) hbb))))
  go_loopw [6, 39] (fun v i wr => ∃ k : Nat, k ≤ N ∧ i = .int .i64 k ∧ Hid (Kd.R (Kd.int .i64) 3 wr W.heap.size (fun _ => True) v (tickN gs k).2) ∧ Hid (DeskAt n0 wr b p y bl (tickN gs k).1) ∧ Hid (Only bl W wr)) (fun _ i _ => N - (intOf i).toNat)
  case atStart => exact ⟨0, Nat.zero_le _, rfl, Lib.hid (Kd.R_nil _ _ _ _ _), D1, ON1⟩
  case round =>
    obtain ⟨k, hk, rfl, HO, D0, ON⟩ := hrel
    by_cases hlt : k < N
    · have hgk := Lib.hid (tickN_good HG.out k)
      have hlen := tickN_len HG.out k
      go_wp2_with (first
        | (go_at_call 21; (with_reducible refine (tick_c D0.out hgk.out).mono ?_); rintro e w3 ⟨v, rfl, hR, hD, hO⟩; obtain ⟨A, c, rfl, hc, hC⟩ := Kd.R_reads hR; have HO2 := Lib.hid (R_only HO.out D0.out.g (by decide) hO); have ON2 := Lib.hid (ON.out.step hO))
        | ((with_reducible refine gate_builtin (b := .append) (xs := #[.tmp 41, .tmp 43]) rfl ?_); at_builtin; refine Hid.out ?_))
      refine Lib.hid ?_
      refine Kd.R_append_rows (Kd.int .i64) (w0 := ?aW) W.heap.size rfl (.tmp 41) (.tmp 43) 37 3 (.int .i64 0) 8 rfl Try.underlying37 (by kernel_rfl) rfl (by decide) (by omega) u6 (tickN gs k).2 (goneD (tickN gs k).1) A (goneD (tickN gs k).1).length c (fun _ => True) (fun _ => False) rfl rfl ?aO (rows_of hC) K_M_int (fun _ hk => hk.elim) (fun _ _ => trivial) ?aB ?aS ?aL ?_
      case aO => exact HO2.out
      case aB => exact Below.refl _ _
      case aS => exact (ON2.out.bel 0 (Nat.zero_le _) (Nat.zero_le _)).size
      case aL =>
        have h1 := goneK_len (tickN gs k).1 (tickN gs k).1.length
        have h2 := hgk.out.n8
        simp only [goneD]
        omega
      intro v1 w1 hor hb hgr hat
      go_wp2
      go_roundw
      case rel => exact ⟨k + 1, by omega, by go_num, Lib.hid hor, Lib.hid (hD.grown HO2.out hgr), Lib.hid (ON2.out.grown hgr (own_ge HO2.out))⟩
      case measure => simp [intOf]; omega
    · have hkl : k = N := by omega
      subst hkl
      go_wp2
      go_ret2
      exact ⟨_, rfl, HO.out, D0.out, ON.out⟩
theorem does_c {n0 : Nat} {W : World} {b : Nat} {p : Pol} {y : PAt} {bl : Nat} {gs : List G} (h : DeskAt n0 W b p y bl gs) (hg : Good p gs) (k : Do) : Calls Try.prog 14 #[.pointer (some ⟨b, 0, none⟩), .agg #[.int .i64 k.op, .int .i64 k.who, .int .i64 k.conn, .int .i64 k.n]] W (Done n0 b p y bl W (doesD p gs k)) := by
  unfold doesD
  by_cases h2 : k.op7 = 2
  · rw [if_pos h2]; exact does_2 h hg k.op k.who k.conn k.n h2
  rw [if_neg h2]
  by_cases h3 : k.op7 = 3
  · rw [if_pos (.inl h3)]; exact does_3 h hg k.op k.who k.conn k.n h3
  by_cases h4 : k.op7 = 4
  · rw [if_pos (.inr h4)]; exact does_4 h hg k.op k.who k.conn k.n h4
  rw [if_neg (by rintro (h | h) <;> contradiction)]
  by_cases h5 : k.op7 = 5
  · rw [if_pos h5]; exact does_5 h hg k.op k.who k.conn k.n h5
  rw [if_neg h5]
  by_cases h6 : k.op7 = 6
  · rw [if_pos h6]; exact does_6 h hg k.op k.who k.conn k.n h6
  rw [if_neg h6]
  by_cases h7 : k.op7 = 7
  · rw [if_pos h7]
    have hle := k.times_le
    exact does_7 h hg k.op k.who k.conn k.n h7 (Lib.hid (show k.timesI = (k.timesI.toNat : Int) by omega)) (by omega)
  · rw [if_neg h7]; exact does_0 h hg k.op k.who k.conn k.n h2 h3 h4 h5 h6 h7
end Go.Proofs.Ytkfjolhlnhbgjaa.D
