/- The law LatticeSight walked: its call answers true, whatever policy, places and label it is given. Conditions: its labels are well formed. -/
import Derived.Test.YtfgcjpclhobnnaaLSeats
import Derived.Test.YtfgcjpclhobnnaaLPairs
import Derived.Test.YtfgcjpclhobnnaaQV
namespace Go.Proofs.Ytfgcjpclhobnnaa.L
open Go.RowKit Go.Proofs.Ytfgcjpclhobnnaa.P Go.Proofs.YtfgcjpclhobnnaaBase Go.Proofs.YtfgcjpclhobnnaaW.PrintWords Go.Proofs.Ytfgcjpclhobnnaa.J Go.Proofs.Ytfgcjpclhobnnaa.Q
set_option linter.unusedVariables false
set_option linter.unusedSimpArgs false

/-- both find a label at the same place -/
theorem at_both (p : Pol) (y : S24) (hn : p.ls.length ≤ 200) : ∃ i b, lattice_At.f 1000 p.ls p.qs p.es y.f0 y.f1 = some (i, b) ∧ sealskinref01_At.f 1000 p.ls p.qs p.es y.f0 y.f1 = some (i, b) := by
  have h2 : (∃ j : Nat, j < p.ls.length ∧ p.ls[j]? = some y ∧ y ∉ p.ls.take j ∧ sealskinref01_At.f 1000 p.ls p.qs p.es y.f0 y.f1 = some ((j : Int), true)) ∨ (y ∉ p.ls ∧ sealskinref01_At.f 1000 p.ls p.qs p.es y.f0 y.f1 = some (0, false)) :=
    refAt_l0 p.ls p.qs p.es y (by omega) p.ls.length 1000 0 (by omega) (by omega) (by simp)
  rcases at_f p y hn with ⟨j, a1, a2, a3, a4⟩ | ⟨a1, a2⟩ <;> rcases h2 with ⟨i, b1, b2, b3, b4⟩ | ⟨b1, b2⟩
  · have hij : i = j := by
      rcases Nat.lt_trichotomy i j with hlt | heq | hgt
      · exfalso; refine a3 (List.mem_of_getElem? (i := i) ?_)
        rw [List.getElem?_take, if_pos hlt]; exact b2
      · exact heq
      · exfalso; refine b3 (List.mem_of_getElem? (i := j) ?_)
        rw [List.getElem?_take, if_pos hgt]; exact a2
    subst hij
    exact ⟨_, _, a4, b4⟩
  · exact absurd (List.mem_of_getElem? a2) b1
  · exact absurd (List.mem_of_getElem? b2) a1
  · exact ⟨_, _, a2, b2⟩
theorem atp_c {w : World} {p : Pol} {x : PAt} {W : World} (h : PQ w p x W) (y : S24) (i : Int) (b : Bool) (hy : Hid (lattice_At.f 1000 p.ls p.qs p.es y.f0 y.f1 = some (i, b))) : Calls Try.prog 34 #[.agg #[.slice x.A0 p.ls.length x.c0, .slice x.A1 p.qs.length x.c1, .slice x.A2 p.es.length x.c2], .agg #[.int .i64 y.f0, .int .u32 y.f1]] W fun e w' => e = .returned (.tuple #[.int .i64 i, .bool b]) ∧ Below W.heap.size W w' :=
  lattice_At.calls 1000 _ _ _ _ _ _ _ _ _ _ _ _ _ _ h.i.h0 h.i.m0 h.i.h1 h.i.m1 h.i.h2 h.i.m2 hy.out
theorem refat_c {w : World} {p : Pol} {x : PAt} {W : World} (h : PQ w p x W) (y : S24) (i : Int) (b : Bool) (hy : Hid (sealskinref01_At.f 1000 p.ls p.qs p.es y.f0 y.f1 = some (i, b))) : Calls Try.prog 35 #[.agg #[.slice x.A0 p.ls.length x.c0, .slice x.A1 p.qs.length x.c1, .slice x.A2 p.es.length x.c2], .agg #[.int .i64 y.f0, .int .u32 y.f1]] W fun e w' => e = .returned (.tuple #[.int .i64 i, .bool b]) ∧ Below W.heap.size W w' :=
  sealskinref01_At.calls 1000 _ _ _ _ _ _ _ _ _ _ _ _ _ _ h.i.h0 h.i.m0 h.i.h1 h.i.m1 h.i.h2 h.i.m2 hy.out
theorem refsees_c {w : World} {p : Pol} {x : PAt} {W : World} (h : PQ w p x W) (hg : Hid (gp p)) (u v : Int) (r : Bool) (hr : Hid (seesB p.ls u v = r)) : Calls Try.prog 36 #[.agg #[.slice x.A0 p.ls.length x.c0, .slice x.A1 p.qs.length x.c1, .slice x.A2 p.es.length x.c2], .int .i64 u, .int .i64 v] W fun e w' => e = .returned (.bool r) ∧ Below W.heap.size W w' :=
  sealskinref01_Sees.calls 100 _ _ _ _ _ _ _ _ _ _ _ _ _ h.i.h0 h.i.m0 h.i.h1 h.i.m1 h.i.h2 h.i.m2 ((refsees_f _ _ _ hg.out.1.2 _ _ _ (Nat.le_refl _)).trans (by rw [hr.out]))
theorem refviewers_c {w : World} {p : Pol} {x : PAt} {W : World} (h : PQ w p x W) (hg : Hid (gp p)) (hn : Hid (p.ls.length ≤ 200)) (v : Int) : Calls Try.prog 38 #[.agg #[.slice x.A0 p.ls.length x.c0, .slice x.A1 p.qs.length x.c1, .slice x.A2 p.es.length x.c2], .int .i64 v] W (SliceOf (viewers p.ls v) W) :=
  (sealskinref01_Viewers.calls 1000 _ _ _ _ _ _ _ _ _ _ _ _ h.i.h0 h.i.m0 h.i.h1 h.i.m1 h.i.h2 h.i.m2 (refviewers_f _ _ _ hg.out.1.2 _ hn.out)).mono fun e w' ⟨v0, he, hR, hb⟩ => by
    obtain ⟨A, c, rfl, hle, hC⟩ := Kd.R_reads hR
    exact ⟨A, c, he, hle, hC, hb⟩
theorem refseen_c {w : World} {p : Pol} {x : PAt} {W : World} (h : PQ w p x W) (hg : Hid (gp p)) (hn : Hid (p.ls.length ≤ 200)) (v : Int) : Calls Try.prog 39 #[.agg #[.slice x.A0 p.ls.length x.c0, .slice x.A1 p.qs.length x.c1, .slice x.A2 p.es.length x.c2], .int .i64 v] W (SliceOf (seenL p.ls v) W) :=
  (sealskinref01_Seen.calls 1000 _ _ _ _ _ _ _ _ _ _ _ _ h.i.h0 h.i.m0 h.i.h1 h.i.m1 h.i.h2 h.i.m2 (refseen_f _ _ _ hg.out.1.2 _ hn.out)).mono fun e w' ⟨v0, he, hR, hb⟩ => by
    obtain ⟨A, c, rfl, hle, hC⟩ := Kd.R_reads hR
    exact ⟨A, c, he, hle, hC, hb⟩
theorem equalV_c {W : World} {A A' : Option Addr} {c c' : Nat} {ls : List S24} {z : Int} (hC : Kd.C (Kd.int .i64) W A (viewers ls z).length (viewers ls z)) (hle : (viewers ls z).length ≤ c) (hC' : Kd.C (Kd.int .i64) W A' (viewers ls z).length (viewers ls z)) (hle' : (viewers ls z).length ≤ c') (hn : Hid (ls.length ≤ 200)) :
    Calls Try.prog 37 #[.slice A (viewers ls z).length c, .slice A' (viewers ls z).length c'] W fun e w' => e = .returned (.bool true) ∧ Below W.heap.size W w' :=
  (slices_Equal_int_int.calls 1000 _ _ _ _ _ _ _ _ hC hle hC' hle' (equal_f _ (by have := viewers_len ls z; have := hn.out; omega))).mono fun e w' ⟨he, hd⟩ => ⟨he, hd.below⟩
theorem equalS_c {W : World} {A A' : Option Addr} {c c' : Nat} {ls : List S24} {z : Int} (hC : Kd.C (Kd.int .i64) W A (seenL ls z).length (seenL ls z)) (hle : (seenL ls z).length ≤ c) (hC' : Kd.C (Kd.int .i64) W A' (seenL ls z).length (seenL ls z)) (hle' : (seenL ls z).length ≤ c') (hn : Hid (ls.length ≤ 200)) :
    Calls Try.prog 37 #[.slice A (seenL ls z).length c, .slice A' (seenL ls z).length c'] W fun e w' => e = .returned (.bool true) ∧ Below W.heap.size W w' :=
  (slices_Equal_int_int.calls 1000 _ _ _ _ _ _ _ _ hC hle hC' hle' (equal_f _ (by have := seen_len ls z; have := hn.out; omega))).mono fun e w' ⟨he, hd⟩ => ⟨he, hd.below⟩

theorem two_boxes (w : World) (o : Obj) (a b : Value) (t : TypeId) : ((w.alloc o).alloc (.cells #[a, b] t)).cell? ⟨w.heap.size + 1, 0, none⟩ = some a ∧ ((w.alloc o).alloc (.cells #[a, b] t)).cell? ⟨w.heap.size + 1, 1, none⟩ = some b := by
  simp
theorem two_keep {w w' : World} {p q : Addr} {a b : Value} (hb : Below w.heap.size w w') (h : w.cell? p = some a ∧ w.cell? q = some b) : w'.cell? p = some a ∧ w'.cell? q = some b := ⟨keep_cell hb h.1, keep_cell hb h.2⟩
set_option maxHeartbeats 8000000 in
theorem sight_walk (w : World) (p : Pol) (x : PAt) (hp : PIn w p x) (gp' : gp p) (v z : Int) (y : S24) : Calls Try.prog 12 #[.agg #[.slice x.A0 p.ls.length x.c0, .slice x.A1 p.qs.length x.c1, .slice x.A2 p.es.length x.c2], .int .i64 v, .int .i64 z, .agg #[.int .i64 y.f0, .int .u32 y.f1]] w fun e w' => e = .returned (.bool true) ∧ Below w.heap.size w w' := by
  obtain ⟨rl, hl⟩ := long_some p
  have Hl := Lib.hid hl
  obtain ⟨vz, Hvz⟩ : ∃ r, Hid (seesB p.ls v z = r) := ⟨_, Lib.hid rfl⟩
  have hlen : Hid (rl = false → p.ls.length ≤ 200) := Lib.hid (fun h => by subst h; exact (long_false hl).1)
  have HG := Lib.hid gp'
  clear hl gp'
  have HP := Lib.hid hp
  clear hp
  cases rl
  case true =>
    clear hlen
    go_enter Try.func12, Try.ntmps12
    go_wp2_with fail
    have Q := (PQ.start HP.out).old (.cells #[.int .i64 y.f0, .int .u32 y.f1] 24)
    have C := Q.cells
    have L := boxed2 (new_blk (w.alloc (.cells #[.slice x.A0 p.ls.length x.c0, .slice x.A1 p.qs.length x.c1, .slice x.A2 p.es.length x.c2] 35)) (.cells #[.int .i64 y.f0, .int .u32 y.f1] 24))
    go_wp2_with (first
      | (go_at_call 20; (with_reducible refine (long_c Q _ Hl).mono ?_); rintro e w2 ⟨rfl, hbb⟩; replace Q := Q.below hbb; clear hbb)
      | (go_at_call 17; (with_reducible refine (awake_true _).mono ?_); rintro e w2 ⟨rfl, hbb⟩; replace Q := Q.below hbb; clear hbb))
    go_ret
    exact ⟨rfl, Q.b⟩
  case false =>
    have hn := Lib.hid (hlen.out rfl)
    clear hlen
    obtain ⟨i, b, h1, h2⟩ := at_both p y hn.out
    have H1 := Lib.hid h1
    have H2 := Lib.hid h2
    clear h1 h2
    go_enter Try.func12, Try.ntmps12
    go_wp2_with fail
    have Q := (PQ.start HP.out).old (.cells #[.int .i64 y.f0, .int .u32 y.f1] 24)
    have C := Q.cells
    have L := two_boxes w (.cells #[.slice x.A0 p.ls.length x.c0, .slice x.A1 p.qs.length x.c1, .slice x.A2 p.es.length x.c2] 35) (.int .i64 y.f0) (.int .u32 y.f1) 24
    clear HP
    go_wp2_with (first
      | (go_at_call 20; (with_reducible refine (long_c Q _ Hl).mono ?_); rintro e w2 ⟨rfl, hbb⟩; replace Q := Q.below hbb; replace L := two_keep hbb L; clear hbb; have C := Q.cells)
      | (go_at_call 34; (with_reducible refine (atp_c Q y _ _ H1).mono ?_); rintro e w2 ⟨rfl, hbb⟩; replace Q := Q.below hbb; replace L := two_keep hbb L; clear hbb; have C := Q.cells)
      | (go_at_call 35; (with_reducible refine (refat_c Q y _ _ H2).mono ?_); rintro e w2 ⟨rfl, hbb⟩; replace Q := Q.below hbb; replace L := two_keep hbb L; clear hbb; have C := Q.cells))
    clear L C
    cases vz <;> cases b
    all_goals
      go_region_held3 (fun w' => w'.cell? ⟨w.heap.size, 0, none⟩ = some (.slice x.A0 p.ls.length x.c0) ∧ w'.cell? ⟨w.heap.size, 1, none⟩ = some (.slice x.A1 p.qs.length x.c1) ∧ w'.cell? ⟨w.heap.size, 2, none⟩ = some (.slice x.A2 p.es.length x.c2))
        (first | exact Q.cells | exact Q.drew.cells)
        (first
          | (go_at_call 21; first | ((with_reducible refine (sees_c Q _ _ _ Hvz).mono ?_); rintro e w2 ⟨rfl, hbb⟩; replace Q := Q.below hbb) | ((with_reducible refine (sees_c Q.drew _ _ _ Hvz).mono ?_); rintro e w2 ⟨rfl, hbb⟩; replace Q := Q.drew.below hbb))
          | (go_at_call 36; (with_reducible refine (refsees_c Q HG _ _ _ Hvz).mono ?_); rintro e w2 ⟨rfl, hbb⟩; replace Q := Q.below hbb)
          | (go_at_call 30; (with_reducible refine (viewers_c Q hn _).mono ?_); rintro e w2 ⟨A, c, rfl, hle, hC, hbb⟩; replace Q := Q.below hbb)
          | (go_at_call 38; (with_reducible refine (refviewers_c Q HG hn _).mono ?_); rintro e w2 ⟨A', c', rfl, hle', hC', hbb⟩; replace Q := Q.below hbb; replace hC := Kd.C_below hC hbb)
          | (go_at_call 37; (with_reducible refine (equalV_c hC hle hC' hle' hn).mono ?_); rintro e w2 ⟨rfl, hbb⟩; replace Q := Q.below hbb)
          | (go_at_call 31; (with_reducible refine (seen_c Q hn _).mono ?_); rintro e w2 ⟨A, c, rfl, hle, hC, hbb⟩; replace Q := Q.below hbb)
          | (go_at_call 39; (with_reducible refine (refseen_c Q HG hn _).mono ?_); rintro e w2 ⟨A', c', rfl, hle', hC', hbb⟩; replace Q := Q.below hbb; replace hC := Kd.C_below hC hbb)
          | (go_at_call 37; (with_reducible refine (equalS_c hC hle hC' hle' hn).mono ?_); rintro e w2 ⟨rfl, hbb⟩; replace Q := Q.below hbb)
          | (go_at_call 17; (with_reducible refine (awake_true _).mono ?_); rintro e w2 ⟨rfl, hbb⟩; replace Q := Q.below hbb))
      all_goals
        go_wp2
        go_ret
        exact ⟨rfl, Q.b⟩
theorem sight_row (w : World) (c0 : Array Value) (p : Pol) (h0 : kPol.K w p (Value.agg c0).cells.toList) (g0 : gp p) (u : Int) (hu : (Lit.int .i64 u).wf = true) (v : Int) (hv : (Lit.int .i64 v).wf = true) (c1 : Array Value) (y : S24) (h1 : k24.K w y (Value.agg c1).cells.toList) (g1 : gd y) :
    Calls Try.prog 12 #[.agg c0, .int .i64 u, .int .i64 v, .agg c1] w fun e w' => e = .returned (.bool true) ∧ Below w.heap.size w w' := by
  obtain ⟨x, hx, rfl⟩ := PIn.open h0
  have e1 := agg24 h1
  subst e1
  exact sight_walk w p x hx g0 u v y
end Go.Proofs.Ytfgcjpclhobnnaa.L
