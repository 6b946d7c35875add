/- The law LatticePairs walked: its call answers true, whatever policy and places it is given. Conditions: its labels are well formed. -/
import Derived.Test.YtfgcjpclhobnnaaLThrough
namespace Go.Proofs.Ytfgcjpclhobnnaa.L
open Go.RowKit Go.Proofs.Ytfgcjpclhobnnaa.P Go.Proofs.YtfgcjpclhobnnaaBase Go.Proofs.YtfgcjpclhobnnaaW.PrintWords Go.Proofs.Ytfgcjpclhobnnaa.J Go.Proofs.Ytfgcjpclhobnnaa.Q
set_option linter.unusedVariables false
set_option linter.unusedSimpArgs false

/-- a slice that holds these numbers -/
def SliceOf (l : List Int) (W : World) (e : Ending) (w' : World) : Prop := ∃ A c, e = .returned (.slice A l.length c) ∧ l.length ≤ c ∧ Kd.C (Kd.int .i64) w' A l.length l ∧ Below W.heap.size W w'
theorem viewers_c {w : World} {p : Pol} {x : PAt} {W : World} (h : PQ w p x W) (hn : Hid (p.ls.length ≤ 200)) (v : Int) : Calls Try.prog 30 #[.agg #[.slice x.A0 p.ls.length x.c0, .slice x.A1 p.qs.length x.c1, .slice x.A2 p.es.length x.c2], .int .i64 v] W (SliceOf (viewers p.ls v) W) :=
  (lattice_Viewers.calls 1000 _ _ _ _ _ _ _ _ _ _ _ _ h.i.h0 h.i.m0 h.i.h1 h.i.m1 h.i.h2 h.i.m2 (viewers_f _ _ _ _ hn.out)).mono fun e w' ⟨v0, he, hR, hb⟩ => by
    obtain ⟨A, c, rfl, hle, hC⟩ := Kd.R_reads hR
    exact ⟨A, c, he, hle, hC, hb⟩
theorem seen_c {w : World} {p : Pol} {x : PAt} {W : World} (h : PQ w p x W) (hn : Hid (p.ls.length ≤ 200)) (v : Int) : Calls Try.prog 31 #[.agg #[.slice x.A0 p.ls.length x.c0, .slice x.A1 p.qs.length x.c1, .slice x.A2 p.es.length x.c2], .int .i64 v] W (SliceOf (seenL p.ls v) W) :=
  (lattice_Seen.calls 1000 _ _ _ _ _ _ _ _ _ _ _ _ h.i.h0 h.i.m0 h.i.h1 h.i.m1 h.i.h2 h.i.m2 (seen_f _ _ _ _ hn.out)).mono fun e w' ⟨v0, he, hR, hb⟩ => by
    obtain ⟨A, c, rfl, hle, hC⟩ := Kd.R_reads hR
    exact ⟨A, c, he, hle, hC, hb⟩
theorem viewers_len (ls : List S24) (w : Int) : (viewers ls w).length ≤ ls.length := filter_len _ _
theorem seen_len (ls : List S24) (w : Int) : (seenL ls w).length ≤ ls.length := filter_len _ _
theorem containsV_c {W : World} {A : Option Addr} {c : Nat} {ls : List S24} {z : Int} (hC : Kd.C (Kd.int .i64) W A (viewers ls z).length (viewers ls z)) (hle : (viewers ls z).length ≤ c) (hn : Hid (ls.length ≤ 200)) (v : Int) (r : Bool) (hr : Hid (seesB ls v z = r)) :
    Calls Try.prog 29 #[.slice A (viewers ls z).length c, .int .i64 v] W fun e w' => e = .returned (.bool r) ∧ Below W.heap.size W w' :=
  (slices_Contains_int_int.calls 1000 _ _ _ _ _ _ hC hle (contains_f _ _ (by have := viewers_len ls z; have := hn.out; omega))).mono fun e w' ⟨he, hd⟩ => ⟨by rw [he, mem_viewers, hr.out], hd.below⟩
theorem containsS_c {W : World} {A : Option Addr} {c : Nat} {ls : List S24} {z : Int} (hC : Kd.C (Kd.int .i64) W A (seenL ls z).length (seenL ls z)) (hle : (seenL ls z).length ≤ c) (hn : Hid (ls.length ≤ 200)) (v : Int) (r : Bool) (hr : Hid (seesB ls z v = r)) :
    Calls Try.prog 29 #[.slice A (seenL ls z).length c, .int .i64 v] W fun e w' => e = .returned (.bool r) ∧ Below W.heap.size W w' :=
  (slices_Contains_int_int.calls 1000 _ _ _ _ _ _ hC hle (contains_f _ _ (by have := seen_len ls z; have := hn.out; omega))).mono fun e w' ⟨he, hd⟩ => ⟨by rw [he, mem_seen, hr.out], hd.below⟩

set_option maxHeartbeats 4000000 in
theorem pairs_walk (w : World) (p : Pol) (x : PAt) (hp : PIn w p x) (gp' : gp p) (v z : Int) : Calls Try.prog 9 #[.agg #[.slice x.A0 p.ls.length x.c0, .slice x.A1 p.qs.length x.c1, .slice x.A2 p.es.length x.c2], .int .i64 v, .int .i64 z] w fun e w' => e = .returned (.bool true) ∧ Below w.heap.size w w' := by
  obtain ⟨rl, hl⟩ := long_some p
  have Hl := Lib.hid hl
  obtain ⟨vz, Hvz⟩ : ∃ r, Hid (seesB p.ls v z = r) := ⟨_, Lib.hid rfl⟩
  have hlen : Hid (rl = false → p.ls.length ≤ 200) := Lib.hid (fun h => by subst h; exact (long_false hl).1)
  clear hl gp'
  have HP := Lib.hid hp
  clear hp
  cases rl
  case true =>
    clear hlen
    go_enter Try.func9, Try.ntmps9
    go_wp2_with fail
    refine calls_box HP.out ?_
    intro W Q
    go_wp2_with (first
      | (go_at_call 20; (with_reducible refine (long_c Q _ Hl).mono ?_); rintro e w2 ⟨rfl, hbb⟩; replace Q := Q.below hbb; clear hbb)
      | (go_at_call 17; (with_reducible refine (awake_true _).mono ?_); rintro e w2 ⟨rfl, hbb⟩; replace Q := Q.below hbb; clear hbb))
    go_ret
    exact ⟨rfl, Q.b⟩
  case false =>
    have hn := Lib.hid (hlen.out rfl)
    clear hlen
    go_enter Try.func9, Try.ntmps9
    go_wp2_with fail
    refine calls_box HP.out ?_
    intro W Q
    clear HP
    go_wp2_with (first
      | (go_at_call 20; (with_reducible refine (long_c Q _ Hl).mono ?_); rintro e w2 ⟨rfl, hbb⟩; replace Q := Q.below hbb; clear hbb))
    cases vz
    all_goals
      go_region_held3 (fun w' => w'.cell? ⟨w.heap.size, 0, none⟩ = some (.slice x.A0 p.ls.length x.c0) ∧ w'.cell? ⟨w.heap.size, 1, none⟩ = some (.slice x.A1 p.qs.length x.c1) ∧ w'.cell? ⟨w.heap.size, 2, none⟩ = some (.slice x.A2 p.es.length x.c2))
        (first | exact Q.cells | exact Q.drew.cells)
        (first
          | (go_at_call 30; first | ((with_reducible refine (viewers_c Q hn _).mono ?_); rintro e w2 ⟨A, c, rfl, hle, hC, hbb⟩; replace Q := Q.below hbb) | ((with_reducible refine (viewers_c Q.drew hn _).mono ?_); rintro e w2 ⟨A, c, rfl, hle, hC, hbb⟩; replace Q := Q.drew.below hbb))
          | (go_at_call 31; (with_reducible refine (seen_c Q hn _).mono ?_); rintro e w2 ⟨A, c, rfl, hle, hC, hbb⟩; replace Q := Q.below hbb)
          | (go_at_call 29; (with_reducible refine (containsV_c hC hle hn _ _ Hvz).mono ?_); rintro e w2 ⟨rfl, hbb⟩; replace Q := Q.below hbb)
          | (go_at_call 29; (with_reducible refine (containsS_c hC hle hn _ _ Hvz).mono ?_); rintro e w2 ⟨rfl, hbb⟩; replace Q := Q.below hbb)
          | (go_at_call 21; (with_reducible refine (sees_c Q _ _ _ Hvz).mono ?_); rintro e w2 ⟨rfl, hbb⟩; replace Q := Q.below hbb)
          | (go_at_call 17; (with_reducible refine (awake_true _).mono ?_); rintro e w2 ⟨rfl, hbb⟩; replace Q := Q.below hbb))
      all_goals
        go_wp2
        go_ret
        exact ⟨rfl, Q.b⟩
theorem pairs_row (w : World) (c0 : Array Value) (p : Pol) (h0 : kPol.K w p (Value.agg c0).cells.toList) (g0 : gp p) (u : Int) (hu : (Lit.int .i64 u).wf = true) (v : Int) (hv : (Lit.int .i64 v).wf = true) :
    Calls Try.prog 9 #[.agg c0, .int .i64 u, .int .i64 v] w fun e w' => e = .returned (.bool true) ∧ Below w.heap.size w w' := by
  obtain ⟨x, hx, rfl⟩ := PIn.open h0
  exact pairs_walk w p x hx g0 u v
end Go.Proofs.Ytfgcjpclhobnnaa.L
