/- slices.Clone of a policy's lists: the same elements, in memory of the call's own. Conditions: at most 900 elements. -/
import Derived.Test.YtkfjolhlnhbgjaaLP
import Derived.Lib.SliceRun
namespace Go.Proofs.Ytkfjolhlnhbgjaa.L
open Go.RowKit Go.Proofs.Ytkfjolhlnhbgjaa.P Go.Proofs.YtkfjolhlnhbgjaaBase Go.Proofs.YtkfjolhlnhbgjaaW.PrintWords Go.Proofs.YtkfjolhlnhbgjaaW.PrintMore Go.Proofs.Ytkfjolhlnhbgjaa.Q Go.Lib
set_option linter.unusedVariables false
set_option linter.unusedSimpArgs false

/-- a slice of the call's own that holds these elements -/
def CloneOf {α : Type} (d : Kd α) (e : Nat) (l : List α) (W : World) (x : Ending) (w' : World) : Prop := ∃ v, x = .returned v ∧ Kd.R d e w' W.heap.size (fun _ => True) v l ∧ Below W.heap.size W w'
theorem R_empty {α : Type} (d : Kd α) (e : Nat) (w : World) : Kd.R d e (w.alloc (.cells #[] e)) w.heap.size (fun _ => True) (.slice (some ⟨w.heap.size, 0, none⟩) 0 0) [] :=
  ⟨fun _ _ => trivial, [], World.ownsRow_made w #[] 0 (Nat.le_refl _) (Nat.zero_le _) (by simp), Reps.none _ _⟩
theorem none_nil {α : Type} {d : Kd α} {w : World} {l : List α} (h : Kd.C d w none l.length l) : l = [] := by
  cases l with
  | nil => rfl
  | cons a r =>
    obtain ⟨ad, e, _⟩ := h.2.2 (by simp)
    cases e
theorem hold {p : Prop} (h : p) : p := h
theorem rows_of {α : Type} {d : Kd α} {w : World} {A : Option Addr} {n : Nat} {l : List α} (h : Kd.C d w A n l) : ReadsRow (d.K w) d.sz w A n l := h
set_option maxHeartbeats 4000000 in
theorem clone77_c {w : World} {A : Option Addr} {c : Nat} {l : List S77} (hC : Kd.C k77 w A l.length l) (hle : l.length ≤ c) (hn : Hid (l.length ≤ 900)) : Calls Try.prog 49 #[.slice A l.length c] w (CloneOf k77 77 l w) := by
  have q31 : ∀ (w : World) (a : Option Addr) (n c n' c' : Nat), (binOp .eql 22 (.slice a n c) (.slice none n' c')).run Try.prog w = .ok (.bool a.isNone) w := fun w a n c n' c' => Lib.run_eql_slice_nil w _ _ a n c n' c' Try.underlying22
  cases A with
  | none =>
    have := none_nil hC
    subst this
    go_enter Try.func49, Try.ntmps49
    go_wp2
    go_ret
    exact ⟨_, rfl, Kd.R_nil _ _ _ _ _, Below.refl _ _⟩
  | some ad =>
    have HC := Lib.hid hC
    clear hC
    go_enter Try.func49, Try.ntmps49
    go_wp2_with ((with_reducible refine gate_builtin (b := .append) (xs := #[.tmp 5, .tmp 6]) rfl ?_); at_builtin; refine Kd.R_append_rows k77 (w0 := w) w.heap.size rfl (.tmp 5) (.tmp 6) 22 77 (.agg #[.int .i64 0, .int .u32 0]) 16 rfl Try.underlying22 info77 rfl (by decide) (by omega) (.slice (some ⟨w.heap.size, 0, none⟩) 0 0) [] l (some ad) l.length c (fun _ => True) (fun _ => False) rfl rfl ?aO (rows_of (Kd.C_alloc HC.out (.cells #[] 77))) ?aM (fun _ hk => hk.elim) (fun _ _ => trivial) ?aB ?aS ?aL ?_)
    case aO => exact R_empty _ _ _
    case aM => exact fun x cs h => by rw [k77_open h]; exact k77_mkM _ _ _ _
    case aB => exact below_alloc (Below.refl _ _) _
    case aS => simp
    case aL => have := hn.out; simp; omega
    intro v1 w1 hR hB hG hat
    go_wp2
    go_ret
    exact ⟨_, rfl, by simpa using hR, hB⟩
set_option maxHeartbeats 4000000 in
theorem clone41_c {w : World} {A : Option Addr} {c : Nat} {l : List S41} (hC : Kd.C k41 w A l.length l) (hle : l.length ≤ c) (hn : Hid (l.length ≤ 900)) : Calls Try.prog 50 #[.slice A l.length c] w (CloneOf k41 41 l w) := by
  have q31 : ∀ (w : World) (a : Option Addr) (n c n' c' : Nat), (binOp .eql 23 (.slice a n c) (.slice none n' c')).run Try.prog w = .ok (.bool a.isNone) w := fun w a n c n' c' => Lib.run_eql_slice_nil w _ _ a n c n' c' Try.underlying23
  cases A with
  | none =>
    have := none_nil hC
    subst this
    go_enter Try.func50, Try.ntmps50
    go_wp2
    go_ret
    exact ⟨_, rfl, Kd.R_nil _ _ _ _ _, Below.refl _ _⟩
  | some ad =>
    have HC := Lib.hid hC
    clear hC
    go_enter Try.func50, Try.ntmps50
    go_wp2_with ((with_reducible refine gate_builtin (b := .append) (xs := #[.tmp 5, .tmp 6]) rfl ?_); at_builtin; refine Kd.R_append_rows k41 (w0 := w) w.heap.size rfl (.tmp 5) (.tmp 6) 23 41 (.agg #[.int .i64 0, .int .i64 0, .int .i64 0]) 24 rfl Try.underlying23 (by kernel_rfl) rfl (by decide) (by omega) (.slice (some ⟨w.heap.size, 0, none⟩) 0 0) [] l (some ad) l.length c (fun _ => True) (fun _ => False) rfl rfl ?aO (rows_of (Kd.C_alloc HC.out (.cells #[] 41))) ?aM (fun _ hk => hk.elim) (fun _ _ => trivial) ?aB ?aS ?aL ?_)
    case aO => exact R_empty _ _ _
    case aM => exact fun x cs h => by rw [k41_open h]; exact k41_mkM _ _ _ _
    case aB => exact below_alloc (Below.refl _ _) _
    case aS => simp
    case aL => have := hn.out; simp; omega
    intro v1 w1 hR hB hG hat
    go_wp2
    go_ret
    exact ⟨_, rfl, by simpa using hR, hB⟩
set_option maxHeartbeats 4000000 in
theorem clone48_c {w : World} {A : Option Addr} {c : Nat} {l : List S48} (hC : Kd.C k48 w A l.length l) (hle : l.length ≤ c) (hn : Hid (l.length ≤ 900)) : Calls Try.prog 51 #[.slice A l.length c] w (CloneOf k48 48 l w) := by
  have q31 : ∀ (w : World) (a : Option Addr) (n c n' c' : Nat), (binOp .eql 24 (.slice a n c) (.slice none n' c')).run Try.prog w = .ok (.bool a.isNone) w := fun w a n c n' c' => Lib.run_eql_slice_nil w _ _ a n c n' c' Try.underlying24
  cases A with
  | none =>
    have := none_nil hC
    subst this
    go_enter Try.func51, Try.ntmps51
    go_wp2
    go_ret
    exact ⟨_, rfl, Kd.R_nil _ _ _ _ _, Below.refl _ _⟩
  | some ad =>
    have HC := Lib.hid hC
    clear hC
    go_enter Try.func51, Try.ntmps51
    go_wp2_with ((with_reducible refine gate_builtin (b := .append) (xs := #[.tmp 5, .tmp 6]) rfl ?_); at_builtin; refine Kd.R_append_rows k48 (w0 := w) w.heap.size rfl (.tmp 5) (.tmp 6) 24 48 (.agg #[.int .i64 0, .string ⟨#[]⟩, .bool false]) 32 rfl Try.underlying24 (by kernel_rfl) rfl (by decide) (by omega) (.slice (some ⟨w.heap.size, 0, none⟩) 0 0) [] l (some ad) l.length c (fun _ => True) (fun _ => False) rfl rfl ?aO (rows_of (Kd.C_alloc HC.out (.cells #[] 48))) ?aM (fun _ hk => hk.elim) (fun _ _ => trivial) ?aB ?aS ?aL ?_)
    case aO => exact R_empty _ _ _
    case aM => exact fun x cs h => by rw [k48_open h]; exact k48_mkM _ _ _ _
    case aB => exact below_alloc (Below.refl _ _) _
    case aS => simp
    case aL => have := hn.out; simp; omega
    intro v1 w1 hR hB hG hat
    go_wp2
    go_ret
    exact ⟨_, rfl, by simpa using hR, hB⟩
end Go.Proofs.Ytkfjolhlnhbgjaa.L
