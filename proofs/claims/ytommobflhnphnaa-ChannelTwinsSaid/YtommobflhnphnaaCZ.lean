/- The dead ends. Conditions: none. -/
import Derived.Test.YtommobflhnphnaaCP
namespace Go.Proofs.Ytommobflhnphnaa.C
open Go.RowKit Go.Proofs.Ytommobflhnphnaa.P Go.Proofs.YtommobflhnphnaaBase Go.Proofs.YtommobflhnphnaaW.PrintWords Go.Proofs.YtommobflhnphnaaW.PrintLast Go.Maps Go.Lib
set_option linter.unusedVariables false
set_option linter.unusedSimpArgs false

/-- no end: nil, or one that New did not make -/
def NoEnd (W : World) (A : Option Addr) : Prop := A = none ∨ ∃ b, A = some ⟨b, 0, none⟩ ∧ W.heap[b]? = some (.cells #[.int .i64 0, .slice none 0 0, .int .i64 0, .map none, .bool false, .int .i64 0] 68 (0, 0))
theorem NoEnd.below {W W' : World} {A : Option Addr} (h : NoEnd W A) (hb : Below W.heap.size W W') : NoEnd W' A := by
  rcases h with h | ⟨b, h1, h2⟩
  · exact .inl h
  · exact .inr ⟨b, h1, keep_blk hb h2⟩
theorem dead_t {W : World} {A : Option Addr} (h : NoEnd W A) : Calls Try.prog 37 #[.pointer A] W fun e w' => e = .returned (.bool true) ∧ Below W.heap.size W w' := by
  rcases h with rfl | ⟨b, rfl, h⟩
  · go_enter Try.func37, Try.ntmps37
    go_wp2
    go_ret
    exact ⟨rfl, Below.refl _ _⟩
  · obtain ⟨y0, y1, y2, y3, y4, y5⟩ := boxed6 h
    clear h
    go_enter Try.func37, Try.ntmps37
    first
    | (go_wp2; go_ret; exact ⟨rfl, Below.refl _ _⟩)
    | (go_region; go_wp2; go_ret; exact ⟨rfl, by first | exact Below.refl _ _ | exact below_drew1 (Below.refl _ _)⟩)
set_option maxHeartbeats 4000000 in
theorem nosend {W : World} {A : Option Addr} {B : Option Addr} {l cb : Nat} (h : NoEnd W A) : Calls Try.prog 13 #[.pointer A, .slice B l cb] W fun e w' => e = .returned (.int .i64 6) ∧ Below W.heap.size W w' := by
  have H := Lib.hid h
  clear h
  go_enter Try.func13, Try.ntmps13
  go_wp2_with (first
    | (go_at_call 37; (with_reducible refine (dead_t H.out).mono ?_); rintro e w2 ⟨rfl, hbb⟩))
  first
  | go_ret2
  | go_ret
  exact ⟨rfl, hbb⟩
set_option maxHeartbeats 4000000 in
theorem notake {W : World} {A : Option Addr} {x0 x1 x2 : Int} {B : Option Addr} {l cb : Nat} (h : NoEnd W A) : Calls Try.prog 14 #[.pointer A, .agg #[.int .i64 x0, .int .i64 x1, .int .i64 x2, .slice B l cb]] W fun e w' => e = .returned (.tuple #[.slice none 0 0, .int .i64 6]) ∧ Below W.heap.size W w' := by
  have H := Lib.hid h
  clear h
  go_enter Try.func14, Try.ntmps14
  go_wp2_with (first
    | (go_at_call 37; (with_reducible refine (dead_t (H.out.below (below_alloc (Below.refl _ _) _))).mono ?_); rintro e w2 ⟨rfl, hbb⟩))
  first
  | go_ret2
  | go_ret
  exact ⟨rfl, below_step (below_alloc (Below.refl _ _) _) hbb⟩
set_option maxHeartbeats 4000000 in
theorem notick {W : World} {A : Option Addr} (h : NoEnd W A) : Calls Try.prog 15 #[.pointer A] W fun e w' => e = .returned (.int .i64 6) ∧ Below W.heap.size W w' := by
  have H := Lib.hid h
  clear h
  go_enter Try.func15, Try.ntmps15
  go_wp2_with (first
    | (go_at_call 37; (with_reducible refine (dead_t H.out).mono ?_); rintro e w2 ⟨rfl, hbb⟩))
  first
  | go_ret2
  | go_ret
  exact ⟨rfl, hbb⟩
set_option maxHeartbeats 4000000 in
theorem noout {W : World} {A : Option Addr} (h : NoEnd W A) : Calls Try.prog 16 #[.pointer A] W fun e w' => e = .returned (.slice none 0 0) ∧ Below W.heap.size W w' := by
  have H := Lib.hid h
  clear h
  go_enter Try.func16, Try.ntmps16
  go_wp2_with (first
    | (go_at_call 37; (with_reducible refine (dead_t H.out).mono ?_); rintro e w2 ⟨rfl, hbb⟩))
  first
  | go_ret2
  | go_ret
  exact ⟨rfl, hbb⟩
set_option maxHeartbeats 4000000 in
theorem notaken {W : World} {A : Option Addr} (h : NoEnd W A) : Calls Try.prog 17 #[.pointer A] W fun e w' => e = .returned (.int .i64 0) ∧ Below W.heap.size W w' := by
  have H := Lib.hid h
  clear h
  go_enter Try.func17, Try.ntmps17
  go_wp2_with (first
    | (go_at_call 37; (with_reducible refine (dead_t H.out).mono ?_); rintro e w2 ⟨rfl, hbb⟩))
  first
  | go_ret2
  | go_ret
  exact ⟨rfl, hbb⟩
set_option maxHeartbeats 4000000 in
theorem nowait {W : World} {A : Option Addr} (h : NoEnd W A) : Calls Try.prog 18 #[.pointer A] W fun e w' => e = .returned (.int .i64 0) ∧ Below W.heap.size W w' := by
  have H := Lib.hid h
  clear h
  go_enter Try.func18, Try.ntmps18
  go_wp2_with (first
    | (go_at_call 37; (with_reducible refine (dead_t H.out).mono ?_); rintro e w2 ⟨rfl, hbb⟩))
  first
  | go_ret2
  | go_ret
  exact ⟨rfl, hbb⟩
set_option maxHeartbeats 4000000 in
theorem nocalm {W : World} {A : Option Addr} (h : NoEnd W A) : Calls Try.prog 29 #[.pointer A] W fun e w' => e = .returned (.bool true) ∧ Below W.heap.size W w' := by
  have H := Lib.hid h
  clear h
  go_enter Try.func29, Try.ntmps29
  go_wp2_with (first
    | (go_at_call 37; (with_reducible refine (dead_t H.out).mono ?_); rintro e w2 ⟨rfl, hbb⟩))
  first
  | go_ret2
  | go_ret
  exact ⟨rfl, hbb⟩
set_option maxHeartbeats 4000000 in
theorem noconn {W : World} {A : Option Addr} (h : NoEnd W A) : Calls Try.prog 30 #[.pointer A] W fun e w' => e = .returned (.int .i64 0) ∧ Below W.heap.size W w' := by
  rcases h with rfl | ⟨b, rfl, h⟩
  · go_enter Try.func30, Try.ntmps30
    go_wp2
    go_ret
    exact ⟨rfl, Below.refl _ _⟩
  · obtain ⟨y0, y1, y2, y3, y4, y5⟩ := boxed6 h
    clear h
    go_enter Try.func30, Try.ntmps30
    go_wp2
    go_ret
    exact ⟨rfl, Below.refl _ _⟩
set_option maxHeartbeats 4000000 in
theorem noclone {W : World} {A : Option Addr} (h : NoEnd W A) : Calls Try.prog 32 #[.pointer A] W fun e w' => e = .returned (.pointer none) ∧ Below W.heap.size W w' := by
  have H := Lib.hid h
  clear h
  go_enter Try.func32, Try.ntmps32
  go_wp2_with (first
    | (go_at_call 37; (with_reducible refine (dead_t H.out).mono ?_); rintro e w2 ⟨rfl, hbb⟩))
  first
  | go_ret2
  | go_ret
  exact ⟨rfl, hbb⟩
end Go.Proofs.Ytommobflhnphnaa.C
