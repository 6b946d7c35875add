/- The reference's Send. Conditions: the end is one that New made. -/
import Derived.Test.YtommobflhnphnaaFA
import Derived.Laws.BytesArg
import Derived.Deep.RegionLawGrows
namespace Go.Proofs.Ytommobflhnphnaa.C
open Go.RowKit Go.Proofs.Ytommobflhnphnaa.P Go.Proofs.YtommobflhnphnaaBase Go.Proofs.YtommobflhnphnaaW.PrintWords Go.Proofs.YtommobflhnphnaaW.PrintLast Go.Proofs.YtommobflhnphnaaW.PrintMore Go.Maps Go.Lib
set_option linter.unusedVariables false
set_option linter.unusedSimpArgs false

theorem conv_bs {w : World} {A : Option Addr} {c : Nat} {bs : List Int} (hC : Kd.C (Kd.int .u8) w A bs.length bs) : (convert 23 9 (.slice A bs.length c)).run Try.prog w = .ok (.string (strOfNums bs)) w := by
  cases A with
  | none =>
    have := none_nil hC
    subst this
    rw [run_convert_bytes_nil w 23 5 Try.underlying23 Try.underlying5 _ c 9 Try.underlying9]
    rfl
  | some ad =>
    have hl : (loadCells ad bs.length).run Try.prog w = .ok (bs.map (Value.int .u8)).toArray w := by
      have := run_loadCells_list (P := Try.prog) w ad (bs.map (Value.int .u8)) (fun j v hj => by
        rw [List.getElem?_map] at hj
        cases e : bs[j]? with
        | none => rw [e] at hj; cases hj
        | some x =>
          rw [e] at hj
          simp only [Option.map_some, Option.some.injEq] at hj
          subst hj
          have hlt := (List.getElem?_eq_some_iff.1 e).1
          obtain ⟨ad', ea, hh⟩ := hC.2.2 (by omega)
          injection ea with ea
          subst ea
          obtain ⟨cs, _, hK, hcell⟩ := hh j x e
          have hK' : cs = [.int .u8 x] := hK
          subst hK'
          have := hcell 0 _ rfl
          have e1 : j * (Kd.int .u8).sz + 0 = j := by show j * 1 + 0 = j; omega
          rwa [e1] at this)
      simpa using this
    rw [run_convert_bytes_string w 23 9 5 _ bs.length c Try.underlying23 Try.underlying5 Try.underlying9, run_bytesToString w _ bs.length c bs hl, foldl_push_bytes]
    simp [strOfNums, ByteArray.empty, ByteArray.emptyWithCapacity]
    rfl
theorem info90 : (Try.prog.info? 90).map (fun i => (i.zero, i.size, i.bytes)) = some (some (.agg #[.int .i64 0, .string ByteArray.empty, .bool false, .int .i64 0, .bool false]), 5, 48) := by kernel_rfl
theorem RB_one {W : World} {g : Nat} {p : Pa} (h : W.heap[g]? = some (.cells p.cells.toArray 90 (0, 0))) : RB W (some ⟨g, 0, none⟩) 0 [p] := fun _ => ⟨g, _, rfl, h, fun k j p' hp hj => by
  have hk : k = 0 := by have := (List.getElem?_eq_some_iff.1 hp).1; simpa using this
  subst hk
  simp only [List.getElem?_cons_zero, Option.some.injEq] at hp
  subst hp
  simp⟩
theorem EndAt.sent {n0 : Nat} {W : World} {rb : Nat} {c : Ch} (h : EndAt n0 W rb c) (x : Int) : EndAt n0 (W.setCell ⟨rb, 1, none⟩ (.int .i64 x)) rb { c with next := x } := by
  obtain ⟨⟨A, cap, A', cap', off, h1, h2, h3, h4, h5⟩, h6⟩ := h
  have k : Kept 90 W (W.setCell ⟨rb, 1, none⟩ (.int .i64 x)) := fun g cs hg => far_blk hg (fun e => by simp only at e; rw [e, h1] at hg; simp at hg) _
  exact ⟨⟨A, cap, A', cap', off, set_blk (k := 1) h1 _, h2.keep k, h3, h4.keep k, h5⟩, h6⟩
theorem EndAt.queue {n0 : Nat} {W : World} {rb : Nat} {c : Ch} (h : EndAt n0 W rb c) {A : Option Addr} {cap off : Nat} {q : List Pa} (hq : RB W A off q) (hcap : q.length ≤ cap) : EndAt n0 (W.setCell ⟨rb, 2, none⟩ (.slice A q.length cap)) rb { c with q := q } := by
  obtain ⟨⟨A0, cap0, A', cap', off0, h1, h2, h3, h4, h5⟩, h6⟩ := h
  have k : Kept 90 W (W.setCell ⟨rb, 2, none⟩ (.slice A q.length cap)) := fun g cs hg => far_blk hg (fun e => by simp only at e; rw [e, h1] at hg; simp at hg) _
  exact ⟨⟨A, cap, A', cap', off, set_blk (k := 2) h1 _, hq.keep k, hcap, h4.keep k, h5⟩, h6⟩
theorem one_self {b : Nat} : one b b := rfl
theorem sent_blk {W : World} {z : Int} {bs : List Int} (h : W.heap[W.heap.size]? = some (.cells #[.int .i64 z, .string (strOfNums bs), .bool false, .int .i64 0, .bool false] 90 (0, 0))) : W.heap[W.heap.size]? = some (.cells (⟨z, bs, false, 0, false⟩ : Pa).cells.toArray 90 (0, 0)) := h
theorem k90_MK {W : World} {base : Nat} {ok : Nat → Prop} {x : Pa} {cs : List Value} (h : k90.K W x cs) : k90.M W base ok x cs := by
  rw [k90_open h]
  exact k90_mkM _ _ _ _
theorem sent_new (w : World) {z : Int} {bs : List Int} : (w.alloc (.cells #[.int .i64 z, .string (strOfNums bs), .bool false, .int .i64 0, .bool false] 90)).heap[w.heap.size]? = some (.cells (⟨z, bs, false, 0, false⟩ : Pa).cells.toArray 90 (0, 0)) := new_blk w _
theorem sent_new1 (w : World) (o : Obj) {z : Int} {bs : List Int} : ((w.alloc o).alloc (.cells #[.int .i64 z, .string (strOfNums bs), .bool false, .int .i64 0, .bool false] 90)).heap[w.heap.size + 1]? = some (.cells (⟨z, bs, false, 0, false⟩ : Pa).cells.toArray 90 (0, 0)) := by
  have := sent_new (w.alloc o) (z := z) (bs := bs)
  rwa [show (w.alloc o).heap.size = w.heap.size + 1 by simp] at this
theorem R_empty1 {α : Type} (d : Kd α) (e : Nat) (w : World) (o : Obj) : Kd.R d e ((w.alloc o).alloc (.cells #[] e)) w.heap.size (fun _ => True) (.slice (some ⟨w.heap.size + 1, 0, none⟩) 0 0) [] := by
  have := R_empty d e (w.alloc o)
  rw [show (w.alloc o).heap.size = w.heap.size + 1 by simp] at this
  exact Kd.R_lower this (by omega)
theorem own_new6 {α : Type} {d : Kd α} {e base : Nat} {ok : Nat → Prop} {W : World} {v : Value} {xs : List α} (h : Kd.R d e W base ok v xs) : some W.heap.size ≠ v.ownBlock := fun e => by
  obtain ⟨inner, ho⟩ := Kd.R_own h
  have := own_lt ho _ e.symm
  omega
theorem own_apart {v v1 : Value} {W : World} {g : Nat} (hat : v1.ownBlock = v.ownBlock ∨ ∃ b, v1.ownBlock = some b ∧ W.heap.size ≤ b) (h1 : some g ≠ v.ownBlock) (h2 : g < W.heap.size) : some g ≠ v1.ownBlock := by
  rcases hat with e | ⟨b, e, hb⟩
  · rw [e]; exact h1
  · rw [e]
    intro e2
    injection e2 with e2
    omega
set_option maxHeartbeats 16000000 in
theorem rsend_ok {n0 : Nat} {W : World} {rb n : Nat} {c : Ch} {bs : List Int} {Ab : Option Addr} {cb l : Nat} (h : EndAt n0 W rb c) (hB : Kd.C (Kd.int .u8) W Ab bs.length bs) (hbl : bs.length = l) (hn : c.q.length = n)
    (h1 : l ≠ 0) (h2 : l ≤ 16320) (h3 : n < 32) (h4 : 0 ≤ c.next ∧ c.next ≤ 1099511627776) : Calls Try.prog 22 #[.pointer (some ⟨rb, 0, none⟩), .slice Ab l cb] W fun e w' => e = .returned (.int .i64 0) ∧ EndAt n0 w' rb { c with q := c.q ++ [⟨c.next, bs, false, 0, false⟩], next := c.next + 1 } ∧ Ons (one rb) W w' := by
  obtain ⟨h41, h42⟩ := h4
  have H := Lib.hid h
  have HN := Lib.hid hn
  have CV0 := Lib.hid (fun (w' : World) (hb : Below W.heap.size W w') => conv_bs (c := cb) (Kd.C_below hB hb))
  rw [hbl] at CV0
  obtain ⟨A, cap, A', cap', off, hd, hq, hcap, _, _⟩ := h.d
  rw [hn] at hd hcap
  obtain ⟨y0, y1, y2, y3, y4, y5⟩ := boxed6 hd
  have QC := Lib.hid (fun (w' : World) (hb : Below W.heap.size W w') => Kd.C_below (hq.reads (by omega)) hb)
  rw [hn] at QC
  have e1 : ((l : Int) == 0) = false := by simp; omega
  clear h hB hbl hn hd hq
  go_enter Try.func22, Try.ntmps22
  go_upto_region 9 with fail
  have D0 := Lib.hid (H.out.below (below_drew1 (Below.refl _ _)))
  have t1 := drew_cell y1
  have t2 := drew_cell y2
  have B0 := Lib.hid (below_drew1 (Below.refl W.heap.size W))
  have CV := Lib.hid (fun (w' : World) (hb : Below W.drew.heap.size W.drew w') => CV0.out w' (below_step B0.out hb))
  have Q0 := Lib.hid (fun (w' : World) (hb : Below W.drew.heap.size W.drew w') => QC.out w' (below_step B0.out hb))
  refine start_ (n := 19) (S := fun w' => w'.cell? ⟨rb, 2, none⟩ = some (.slice A n cap) ∧ w'.cell? ⟨rb, 1, none⟩ = some (.int .i64 c.next) ∧ (convert 23 9 (.slice Ab l cb)).run Try.prog w' = .ok (.string (strOfNums bs)) w') (ds := [18]) #[false, false, false, false, false, false, false, false, false, false, false, false, false, false, false, false, false, false, false] (by kernel_rfl) rfl rfl ⟨t2, t1, (CV.out _ (Below.refl _ _))⟩ (fun hHeld => ?_)
  generalize hW0 : World.drew _ = W0 at hHeld D0 Q0 CV t2 t1 B0 ⊢
  refine pure_ (i := 0) (N := some 22) (v := ?_) (a' := ?_) #[true, false, false, false, false, false, false, false, false, false, false, false, false, false, false, false, false, false, false] rfl rfl (by kernel_rfl) (fun _ _ _ h => h) (Or.inl ⟨by rfl, ?_⟩) ?_ ?_
  rotate_left
  · intro w'
    go_simp
    with_reducible rfl
  rotate_left
  · simp only [Act.put, List.setIfInBounds_toArray, List.set_cons_zero, List.set_cons_succ, i64_w, i32_w]
    rfl
  refine pure_ (i := 2) (N := some 24) (v := ?_) (a' := ?_) #[true, false, true, false, false, false, false, false, false, false, false, false, false, false, false, false, false, false, false] rfl rfl (by kernel_rfl) (fun _ _ _ h => h) (Or.inl ⟨by rfl, ?_⟩) ?_ ?_
  rotate_left
  · intro w'
    go_simp
    with_reducible rfl
  rotate_left
  · simp only [Act.put, List.setIfInBounds_toArray, List.set_cons_zero, List.set_cons_succ, i64_w, i32_w]
    rfl
  refine pure_ (i := 3) (N := some 25) (v := ?_) (a' := ?_) #[true, false, true, true, false, false, false, false, false, false, false, false, false, false, false, false, false, false, false] rfl rfl (by kernel_rfl) (fun _ _ _ h => h) (Or.inl ⟨by rfl, ?_⟩) ?_ ?_
  rotate_left
  · intro w'
    go_simp
    with_reducible rfl
  rotate_left
  · simp only [Act.put, List.setIfInBounds_toArray, List.set_cons_zero, List.set_cons_succ, i64_w, i32_w]
    rfl
  refine pure_ (i := 4) (N := some 26) (v := ?_) (a' := ?_) #[true, false, true, true, true, false, false, false, false, false, false, false, false, false, false, false, false, false, false] rfl rfl (by kernel_rfl) (fun _ _ _ h => h) (Or.inl ⟨by rfl, ?_⟩) ?_ ?_
  rotate_left
  · intro w'
    go_simp
    with_reducible rfl
  rotate_left
  · simp only [Act.put, List.setIfInBounds_toArray, List.set_cons_zero, List.set_cons_succ, i64_w, i32_w]
    rfl
  refine pure_ (i := 7) (N := some 29) (v := ?_) (a' := ?_) #[true, false, true, true, true, false, false, true, false, false, false, false, false, false, false, false, false, false, false] rfl rfl (by kernel_rfl) (fun _ _ _ h => h) (Or.inl ⟨by rfl, ?_⟩) ?_ ?_
  rotate_left
  · intro w'
    go_simp
    with_reducible rfl
  rotate_left
  · simp only [Act.put, List.setIfInBounds_toArray, List.set_cons_zero, List.set_cons_succ, i64_w, i32_w]
    rfl
  refine pure_ (i := 8) (N := some 30) (v := ?_) (a' := ?_) #[true, false, true, true, true, false, false, true, true, false, false, false, false, false, false, false, false, false, false] rfl rfl (by kernel_rfl) (fun _ _ _ h => h) (Or.inl ⟨by rfl, ?_⟩) ?_ ?_
  rotate_left
  · intro w'
    go_simp
    with_reducible rfl
  rotate_left
  · simp only [Act.put, List.setIfInBounds_toArray, List.set_cons_zero, List.set_cons_succ, i64_w, i32_w]
    rfl
  refine pure_ (i := 9) (N := some 31) (v := ?_) (a' := ?_) #[true, false, true, true, true, false, false, true, true, true, false, false, false, false, false, false, false, false, false] rfl rfl (by kernel_rfl) (fun _ _ _ h => h) (Or.inl ⟨by rfl, ?_⟩) ?_ ?_
  rotate_left
  · intro w'
    go_simp
    with_reducible rfl
  rotate_left
  · simp only [Act.put, List.setIfInBounds_toArray, List.set_cons_zero, List.set_cons_succ, i64_w, i32_w]
    rfl
  refine pure_ (i := 11) (N := some 33) (v := ?_) (a' := ?_) #[true, false, true, true, true, false, false, true, true, true, false, true, false, false, false, false, false, false, false] rfl rfl (by kernel_rfl) (fun _ _ _ h => h) (Or.inl ⟨by rfl, ?_⟩) ?_ ?_
  rotate_left
  · intro w'
    go_simp
    with_reducible rfl
  rotate_left
  · simp only [Act.put, List.setIfInBounds_toArray, List.set_cons_zero, List.set_cons_succ, i64_w, i32_w]
    rfl
  refine take_ (i := 5) (N := some 27) (v := ?_) (a' := ?_) #[true, false, true, true, true, true, false, true, true, true, false, true, false, false, false, false, false, false, false] rfl rfl (by kernel_rfl) (fun _ _ _ h => h) (Or.inl ⟨by rfl, ?_⟩) hHeld ?_ ?_
  rotate_left
  · rintro w' ⟨s0, s1, s2⟩
    go_simp
    with_reducible rfl
  rotate_left
  · simp only [Act.put, List.setIfInBounds_toArray, List.set_cons_zero, List.set_cons_succ, i64_w, i32_w]
    rfl
  refine take_ (i := 10) (N := some 32) (v := ?_) (a' := ?_) #[true, false, true, true, true, true, false, true, true, true, true, true, false, false, false, false, false, false, false] rfl rfl (by kernel_rfl) (fun _ _ _ h => h) (Or.inl ⟨by rfl, ?_⟩) hHeld ?_ ?_
  rotate_left
  · rintro w' ⟨s0, s1, s2⟩
    go_simp
    with_reducible rfl
  rotate_left
  · simp only [Act.put, List.setIfInBounds_toArray, List.set_cons_zero, List.set_cons_succ, i64_w, i32_w]
    rfl
  refine take_ (i := 12) (N := some 34) (v := ?_) (a' := ?_) #[true, false, true, true, true, true, false, true, true, true, true, true, true, false, false, false, false, false, false] rfl rfl (by kernel_rfl) (fun _ _ _ h => h) (Or.inl ⟨by rfl, ?_⟩) hHeld ?_ ?_
  rotate_left
  · rintro w' ⟨s0, s1, s2⟩
    go_simp
    with_reducible rfl
  rotate_left
  · simp only [Act.put, List.setIfInBounds_toArray, List.set_cons_zero, List.set_cons_succ, i64_w, i32_w]
    rfl
  refine pure_ (i := 13) (N := some 35) (v := ?_) (a' := ?_) #[true, false, true, true, true, true, false, true, true, true, true, true, true, true, false, false, false, false, false] rfl rfl (by kernel_rfl) (fun _ _ _ h => h) (Or.inl ⟨by rfl, ?_⟩) ?_ ?_
  rotate_left
  · intro w'
    go_simp
    with_reducible rfl
  rotate_left
  · simp only [Act.put, List.setIfInBounds_toArray, List.set_cons_zero, List.set_cons_succ, i64_w, i32_w]
    rfl
  refine join_ (σ := Value × Nat × Nat) 4 #[true, true, true, true, true, true, true, true, true, true, true, true, true, true, true, false, false, false, false] (fun s => [(23, .slice (some ⟨s.2.1, 0, none⟩) 0 0), (28, s.1), (36, .slice (some ⟨s.2.2, 0, none⟩) 1 1)]) (fun s w' => Kd.R k90 90 w' W0.heap.size (fun _ => True) s.1 c.q ∧ w'.heap[s.2.2]? = some (.cells (⟨c.next, bs, false, 0, false⟩ : Pa).cells.toArray 90 (0, 0)) ∧ some s.2.2 ≠ s.1.ownBlock ∧ Below W0.heap.size W0 w' ∧ W0.heap.size ≤ s.2.2) ?_ ?_
  rotate_left
  · intro hCont
    refine two_ (i := 1) (j := 14) (Ni := some 23) (Nj := some 36) #[true, true, true, true, true, true, false, true, true, true, true, true, true, true, false, false, false, false, false] #[true, false, true, true, true, true, false, true, true, true, true, true, true, true, true, false, false, false, false] rfl rfl rfl rfl (by kernel_rfl) (by decide) (by decide) (fun K hK => ?_) (fun K hK => ?_)
    · skip
      refine value_ (w1 := ?_) (v := ?_) (by rfl) rfl ?_ ?_
      rotate_left 2
      · go_simp
        constructor
        · rfl
        · rfl
      have hb1 := below_alloc (Below.refl W0.heap.size W0) (.cells #[] 90)
      refine hK.out _ _ ⟨(keep_cell hb1 t2), (keep_cell hb1 t1), (CV.out _ hb1)⟩ (fun hHeld => ?_)
      clear hK K
      refine norm_ (a' := ?_) ?_ ?_
      rotate_left
      · show Act.put _ (some 23) _ = _
        simp only [Act.put, List.setIfInBounds_toArray, List.set_cons_zero, List.set_cons_succ, i64_w, i32_w]
        rfl
      refine two_ (i := 6) (j := 14) (Ni := some 28) (Nj := some 36) #[true, true, true, true, true, true, true, true, true, true, true, true, true, true, false, false, false, false, false] #[true, true, true, true, true, true, false, true, true, true, true, true, true, true, true, false, false, false, false] rfl rfl rfl rfl (by kernel_rfl) (by decide) (by decide) (fun K hK => ?_) (fun K hK => ?_)
      · skip
        refine Kd.R_append_rows_step k90 (w0 := W0) W0.heap.size (by rfl) (.tmp 23) (.tmp 27) 55 90 (.agg #[.int .i64 0, .string ByteArray.empty, .bool false, .int .i64 0, .bool false]) 48 rfl Try.underlying55 info90 rfl (by decide) (by decide) (.slice (some ⟨W0.heap.size, 0, none⟩) 0 0) [] c.q A n cap (fun _ => True) (fun _ => False) rfl rfl (R_empty k90 90 W0) (rows_of (Q0.out _ hb1)) (fun x cs h => k90_MK h) (fun _ h => h.elim) (fun _ _ => trivial) hb1 (hb1.size) (by simp; omega) ?_
        intro v6 w6 hR6 hb6 hg6 hat6
        rw [List.nil_append] at hR6
        refine hK.out _ _ ⟨(keep_cell hb6 t2), (keep_cell hb6 t1), (CV.out _ hb6)⟩ (fun hHeld => ?_)
        clear hK K
        refine norm_ (a' := ?_) ?_ ?_
        rotate_left
        · show Act.put _ (some 28) _ = _
          simp only [Act.put, List.setIfInBounds_toArray, List.set_cons_zero, List.set_cons_succ, i64_w, i32_w]
          rfl
        refine one_ (i := 14) (N := some 36) #[true, true, true, true, true, true, true, true, true, true, true, true, true, true, true, false, false, false, false] rfl rfl (by kernel_rfl) (by decide) (fun K hK => ?_)
        refine value_ (w1 := ?_) (v := ?_) (by rfl) rfl ?_ ?_
        rotate_left 2
        · go_simp
          constructor
          · rfl
          · rfl
        have hb14 := below_alloc hb6 (.cells #[.int .i64 c.next, .string (strOfNums bs), .bool false, .int .i64 0, .bool false] 90)
        refine hK.out _ _ ⟨(keep_cell hb14 t2), (keep_cell hb14 t1), (CV.out _ hb14)⟩ (fun hHeld => ?_)
        clear hK K
        refine norm_ (a' := ?_) ?_ ?_
        rotate_left
        · show Act.put _ (some 36) _ = _
          simp only [Act.put, List.setIfInBounds_toArray, List.set_cons_zero, List.set_cons_succ, i64_w, i32_w]
          rfl
        exact norm_ (by simp only [putAll, Act.put, List.setIfInBounds_toArray, List.set_cons_zero, List.set_cons_succ]) (hCont (v6, W0.heap.size, w6.heap.size) _ ⟨Kd.R_alloc hR6 _, sent_new _, own_new6 hR6, hb14, hb6.size⟩)
      · skip
        refine value_ (w1 := ?_) (v := ?_) (by rfl) rfl ?_ ?_
        rotate_left 2
        · go_simp
          constructor
          · rfl
          · rfl
        have hb14 := below_alloc hb1 (.cells #[.int .i64 c.next, .string (strOfNums bs), .bool false, .int .i64 0, .bool false] 90)
        refine hK.out _ _ ⟨(keep_cell hb14 t2), (keep_cell hb14 t1), (CV.out _ hb14)⟩ (fun hHeld => ?_)
        clear hK K
        refine norm_ (a' := ?_) ?_ ?_
        rotate_left
        · show Act.put _ (some 36) _ = _
          simp only [Act.put, List.setIfInBounds_toArray, List.set_cons_zero, List.set_cons_succ, i64_w, i32_w]
          rfl
        refine one_ (i := 6) (N := some 28) #[true, true, true, true, true, true, true, true, true, true, true, true, true, true, true, false, false, false, false] rfl rfl (by kernel_rfl) (by decide) (fun K hK => ?_)
        refine Kd.R_append_rows_step k90 (w0 := W0) W0.heap.size (by rfl) (.tmp 23) (.tmp 27) 55 90 (.agg #[.int .i64 0, .string ByteArray.empty, .bool false, .int .i64 0, .bool false]) 48 rfl Try.underlying55 info90 rfl (by decide) (by decide) (.slice (some ⟨W0.heap.size, 0, none⟩) 0 0) [] c.q A n cap (fun _ => True) (fun _ => False) rfl rfl (Kd.R_alloc (R_empty k90 90 W0) _) (rows_of (Q0.out _ hb14)) (fun x cs h => k90_MK h) (fun _ h => h.elim) (fun _ _ => trivial) hb14 (hb14.size) (by simp; omega) ?_
        intro v6 w6 hR6 hb6 hg6 hat6
        rw [List.nil_append] at hR6
        refine hK.out _ _ ⟨(keep_cell hb6 t2), (keep_cell hb6 t1), (CV.out _ hb6)⟩ (fun hHeld => ?_)
        clear hK K
        refine norm_ (a' := ?_) ?_ ?_
        rotate_left
        · show Act.put _ (some 28) _ = _
          simp only [Act.put, List.setIfInBounds_toArray, List.set_cons_zero, List.set_cons_succ, i64_w, i32_w]
          rfl
        exact norm_ (by simp only [putAll, Act.put, List.setIfInBounds_toArray, List.set_cons_zero, List.set_cons_succ]) (hCont (v6, W0.heap.size, W0.heap.size + 1) _ ⟨hR6, blk_grown (sent_new1 _ _) hg6 (by simp [Value.ownBlock]), own_apart hat6 (by simp [Value.ownBlock]) (by simp <;> omega), hb6, by simp⟩)
    · skip
      refine value_ (w1 := ?_) (v := ?_) (by rfl) rfl ?_ ?_
      rotate_left 2
      · go_simp
        constructor
        · rfl
        · rfl
      have hb14 := below_alloc (Below.refl W0.heap.size W0) (.cells #[.int .i64 c.next, .string (strOfNums bs), .bool false, .int .i64 0, .bool false] 90)
      refine hK.out _ _ ⟨(keep_cell hb14 t2), (keep_cell hb14 t1), (CV.out _ hb14)⟩ (fun hHeld => ?_)
      clear hK K
      refine norm_ (a' := ?_) ?_ ?_
      rotate_left
      · show Act.put _ (some 36) _ = _
        simp only [Act.put, List.setIfInBounds_toArray, List.set_cons_zero, List.set_cons_succ, i64_w, i32_w]
        rfl
      refine one_ (i := 1) (N := some 23) #[true, true, true, true, true, true, false, true, true, true, true, true, true, true, true, false, false, false, false] rfl rfl (by kernel_rfl) (by decide) (fun K hK => ?_)
      refine value_ (w1 := ?_) (v := ?_) (by rfl) rfl ?_ ?_
      rotate_left 2
      · go_simp
        constructor
        · rfl
        · rfl
      have hb1 := below_alloc hb14 (.cells #[] 90)
      refine hK.out _ _ ⟨(keep_cell hb1 t2), (keep_cell hb1 t1), (CV.out _ hb1)⟩ (fun hHeld => ?_)
      clear hK K
      refine norm_ (a' := ?_) ?_ ?_
      rotate_left
      · show Act.put _ (some 23) _ = _
        simp only [Act.put, List.setIfInBounds_toArray, List.set_cons_zero, List.set_cons_succ, i64_w, i32_w]
        rfl
      refine one_ (i := 6) (N := some 28) #[true, true, true, true, true, true, true, true, true, true, true, true, true, true, true, false, false, false, false] rfl rfl (by kernel_rfl) (by decide) (fun K hK => ?_)
      refine Kd.R_append_rows_step k90 (w0 := W0) W0.heap.size (by rfl) (.tmp 23) (.tmp 27) 55 90 (.agg #[.int .i64 0, .string ByteArray.empty, .bool false, .int .i64 0, .bool false]) 48 rfl Try.underlying55 info90 rfl (by decide) (by decide) (.slice (some ⟨W0.heap.size + 1, 0, none⟩) 0 0) [] c.q A n cap (fun _ => True) (fun _ => False) rfl rfl (R_empty1 k90 90 W0 _) (rows_of (Q0.out _ hb1)) (fun x cs h => k90_MK h) (fun _ h => h.elim) (fun _ _ => trivial) hb1 (hb1.size) (by simp; omega) ?_
      intro v6 w6 hR6 hb6 hg6 hat6
      rw [List.nil_append] at hR6
      refine hK.out _ _ ⟨(keep_cell hb6 t2), (keep_cell hb6 t1), (CV.out _ hb6)⟩ (fun hHeld => ?_)
      clear hK K
      refine norm_ (a' := ?_) ?_ ?_
      rotate_left
      · show Act.put _ (some 28) _ = _
        simp only [Act.put, List.setIfInBounds_toArray, List.set_cons_zero, List.set_cons_succ, i64_w, i32_w]
        rfl
      exact norm_ (by simp only [putAll, Act.put, List.setIfInBounds_toArray, List.set_cons_zero, List.set_cons_succ]) (hCont (v6, W0.heap.size + 1, W0.heap.size) _ ⟨hR6, blk_grown (old_blk (sent_new _) _) hg6 (by simp [Value.ownBlock]), own_apart hat6 (by simp [Value.ownBlock]) (by simp <;> omega), hb6, Nat.le_refl _⟩)
  rintro ⟨v6, b23, b36⟩ w3 ⟨hR3, hG3, hne3, hb3, hge3⟩
  have hHeld := (And.intro (keep_cell hb3 t2) (And.intro (keep_cell hb3 t1) (CV.out _ hb3)))
  refine norm_ (a' := ?_) ?_ ?_
  rotate_left
  · simp only [putAll, Act.put, List.setIfInBounds_toArray, List.set_cons_zero, List.set_cons_succ]
    rfl
  refine one_ (i := 15) (N := some 37) #[true, true, true, true, true, true, true, true, true, true, true, true, true, true, true, true, false, false, false] rfl rfl (by kernel_rfl) (by decide) (fun K hK => ?_)
  refine Kd.R_append_rows_step k90 (w0 := W0) W0.heap.size (by rfl) (.tmp 28) (.tmp 36) 55 90 (.agg #[.int .i64 0, .string ByteArray.empty, .bool false, .int .i64 0, .bool false]) 48 rfl Try.underlying55 info90 rfl (by decide) (by decide) v6 c.q [(⟨c.next, bs, false, 0, false⟩ : Pa)] (some ⟨b36, 0, none⟩) 1 1 (fun _ => True) (fun _ => False) rfl rfl hR3 (rows_of ((RB_one hG3).reads (by simp))) (fun x cs h => k90_MK h) (fun _ h => h.elim) (fun _ _ => trivial) hb3 hb3.size (by rw [HN.out]; omega) ?_
  intro v4 w4 hR4 hb4 hg4 hat4
  obtain ⟨A1, c1, rfl, hc1, hq1, _⟩ := RB_of hR4
  have D4 := Lib.hid (D0.out.below hb4)
  have CC := Lib.hid hc1
  have Q4 := Lib.hid hq1
  obtain ⟨A9, cap9, A8, cap8, off9, hd9, _⟩ := D4.out.d
  obtain ⟨r0, r1, r2, r3, r4, r5⟩ := boxed6 hd9
  have zf1 := free_blk hd9 1
  have zf2 := free_blk hd9 2
  have zb9 := lt_blk hd9
  rw [List.length_append, List.length_singleton, HN.out] at CC ⊢
  clear hR3 hG3 hne3 hge3 hR4 hg4 hat4 hc1 hq1
  refine hK.out _ _ ⟨(keep_cell hb4 t2), (keep_cell hb4 t1), (CV.out _ hb4)⟩ (fun hHeld => ?_)
  clear hK K
  refine norm_ (a' := ?_) ?_ ?_
  rotate_left
  · show Act.put _ (some 37) _ = _
    simp only [Act.put, List.setIfInBounds_toArray, List.set_cons_zero, List.set_cons_succ, i64_w, i32_w]
    rfl
  refine pure_ (i := 16) (N := some 38) (v := ?_) (a' := ?_) #[true, true, true, true, true, true, true, true, true, true, true, true, true, true, true, true, true, false, false] rfl rfl (by kernel_rfl) (fun _ _ _ h => h) (Or.inl ⟨by rfl, ?_⟩) ?_ ?_
  rotate_left
  · intro w'
    go_simp
    with_reducible rfl
  rotate_left
  · simp only [Act.put, List.setIfInBounds_toArray, List.set_cons_zero, List.set_cons_succ, i64_w, i32_w]
    rfl
  refine pure_ (i := 17) (N := some 39) (v := ?_) (a' := ?_) #[true, true, true, true, true, true, true, true, true, true, true, true, true, true, true, true, true, true, false] rfl rfl (by kernel_rfl) (fun _ _ _ h => h) (Or.inl ⟨by rfl, ?_⟩) ?_ ?_
  rotate_left
  · intro w'
    go_simp
    with_reducible rfl
  rotate_left
  · simp only [Act.put, List.setIfInBounds_toArray, List.set_cons_zero, List.set_cons_succ, i64_w, i32_w]
    rfl
  refine last_ (i := 18) (N := none) #[true, true, true, true, true, true, true, true, true, true, true, true, true, true, true, true, true, true, true] rfl rfl (by kernel_rfl) (by decide) (fun K hK => ?_)
  refine skip_ (w1 := ?_) (by rfl) rfl ?_ ?_
  rotate_left
  · go_simp
    rfl
  refine hK.out _ _ ?_
  clear hK K
  refine done_ (by kernel_rfl) ?_

  go_wp2
  go_ret
  refine ⟨rfl, ?_, ((Ons.of (below_step B0.out hb4)).step (Ons.put one_self)).step (Ons.put one_self)⟩
  have := D4.out.queue Q4.out (cap := c1) (by rw [List.length_append, List.length_singleton, HN.out]; exact CC.out)
  rw [List.length_append, List.length_singleton, HN.out] at this
  exact this.sent _
set_option maxHeartbeats 8000000 in
theorem rsend_no {n0 : Nat} {W : World} {rb n l cb : Nat} {c : Ch} {Ab : Option Addr} {x : Int} (h : EndAt n0 W rb c) (hn : c.q.length = n) (hx : (l = 0 ∧ x = 1) ∨ (16320 < l ∧ x = 4) ∨ (0 < l ∧ l ≤ 16320 ∧ 32 ≤ n ∧ x = 7) ∨ (0 < l ∧ l ≤ 16320 ∧ n < 32 ∧ 1099511627776 < c.next ∧ x = 5)) : Calls Try.prog 22 #[.pointer (some ⟨rb, 0, none⟩), .slice Ab l cb] W fun e w' => e = .returned (.int .i64 x) ∧ Below W.heap.size W w' := by
  obtain ⟨A, cap, A', cap', off, hd, _, _, _, _⟩ := h.d
  rw [hn] at hd
  obtain ⟨y0, y1, y2, y3, y4, y5⟩ := boxed6 hd
  clear h hn hd
  rcases hx with ⟨h1, rfl⟩ | ⟨h1, rfl⟩ | ⟨h0, h1, h2, rfl⟩ | ⟨h0, h1, h2, h3, rfl⟩
  all_goals
    first
    | have e1 : ((l : Int) == 0) = true := by simp; omega
    | have e1 : ((l : Int) == 0) = false := by simp; omega
    go_enter Try.func22, Try.ntmps22
    go_wp2
    go_ret
    exact ⟨rfl, Below.refl _ _⟩
theorem rsend_c {n0 : Nat} {W : World} {rb : Nat} {c : Ch} {bs : List Int} {Ab : Option Addr} {cb : Nat} (h : EndAt n0 W rb c) (hB : Kd.C (Kd.int .u8) W Ab bs.length bs) (h4 : 0 ≤ c.next) : Calls Try.prog 22 #[.pointer (some ⟨rb, 0, none⟩), .slice Ab bs.length cb] W fun e w' => e = .returned (.int .i64 (sendF c bs).2) ∧ EndAt n0 w' rb (sendF c bs).1 ∧ Ons (one rb) W w' := by
  have no : ∀ x, Calls Try.prog 22 #[.pointer (some ⟨rb, 0, none⟩), .slice Ab bs.length cb] W (fun e w' => e = .returned (.int .i64 x) ∧ Below W.heap.size W w') → Calls Try.prog 22 #[.pointer (some ⟨rb, 0, none⟩), .slice Ab bs.length cb] W fun e w' => e = .returned (.int .i64 x) ∧ EndAt n0 w' rb c ∧ Ons (one rb) W w' := fun x hx => hx.mono fun e w' ⟨h1, h2⟩ => ⟨h1, h.below h2, Ons.of h2⟩
  unfold sendF
  by_cases h1 : bs.length = 0
  · rw [if_pos h1]
    exact no 1 (rsend_no h rfl (.inl ⟨h1, rfl⟩))
  · rw [if_neg h1]
    by_cases h2 : 16320 < bs.length
    · rw [if_pos h2]
      exact no 4 (rsend_no h rfl (.inr (.inl ⟨h2, rfl⟩)))
    · rw [if_neg h2]
      by_cases h3 : 32 ≤ c.q.length
      · rw [if_pos h3]
        exact no 7 (rsend_no h rfl (.inr (.inr (.inl ⟨by omega, by omega, h3, rfl⟩))))
      · rw [if_neg h3]
        by_cases h5 : 1099511627776 < c.next
        · rw [if_pos h5]
          exact no 5 (rsend_no h rfl (.inr (.inr (.inr ⟨by omega, by omega, by omega, h5, rfl⟩))))
        · rw [if_neg h5]
          exact rsend_ok h hB rfl rfl h1 (by omega) (by omega) ⟨h4, by omega⟩
end Go.Proofs.Ytommobflhnphnaa.C
