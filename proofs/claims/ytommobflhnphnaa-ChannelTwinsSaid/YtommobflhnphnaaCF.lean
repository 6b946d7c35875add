/- slices.Clone of bytes and of the queue. Conditions: at most a million bytes, at most a thousand places. -/
import Derived.Test.YtommobflhnphnaaCE
namespace Go.Proofs.Ytommobflhnphnaa.C
open Go.RowKit Go.Proofs.Ytommobflhnphnaa.P Go.Proofs.YtommobflhnphnaaBase Go.Proofs.YtommobflhnphnaaW.PrintWords Go.Proofs.YtommobflhnphnaaW.PrintLast Go.Maps Go.Lib
set_option linter.unusedVariables false
set_option linter.unusedSimpArgs false

theorem R_empty {α : Type} (d : Kd α) (e : Nat) (w : World) : Kd.R d e (w.alloc (.cells #[] e)) w.heap.size (fun _ => True) (.slice (some ⟨w.heap.size, 0, none⟩) 0 0) [] :=
  ⟨fun _ _ => trivial, [], World.ownsRow_made w #[] 0 (Nat.le_refl _) (Nat.zero_le _) (by simp), Reps.none _ _⟩
theorem none_nil {α : Type} {d : Kd α} {w : World} {l : List α} (h : Kd.C d w none l.length l) : l = [] := by
  cases l with
  | nil => rfl
  | cons a r =>
    obtain ⟨ad, e, _⟩ := h.2.2 (by simp)
    cases e
theorem rows_of {α : Type} {d : Kd α} {w : World} {A : Option Addr} {n : Nat} {l : List α} (h : Kd.C d w A n l) : ReadsRow (d.K w) d.sz w A n l := h
def CloneOf {α : Type} (d : Kd α) (e : Nat) (l : List α) (W : World) (x : Ending) (w' : World) : Prop := ∃ v, x = .returned v ∧ Kd.R d e w' W.heap.size (fun _ => True) v l ∧ Below W.heap.size W w'
theorem K_M_u8 {W : World} {base : Nat} {ok : Nat → Prop} (x : Int) (cs : List Value) (h : (Kd.int .u8).K W x cs) : (Kd.int .u8).M W base ok x cs := h
set_option maxHeartbeats 4000000 in
theorem clone5_c {w : World} {A : Option Addr} {c : Nat} {l : List Int} (hC : Kd.C (Kd.int .u8) w A l.length l) (hle : l.length ≤ c) (hn : Hid (l.length ≤ 1000000)) : Calls Try.prog 21 #[.slice A l.length c] w (CloneOf (Kd.int .u8) 5 l w) := by
  have q31 : ∀ (w : World) (a : Option Addr) (n c n' c' : Nat), (binOp .eql 23 (.slice a n c) (.slice none n' c')).run Try.prog w = .ok (.bool a.isNone) w := fun w a n c n' c' => Lib.run_eql_slice_nil w _ _ a n c n' c' Try.underlying23
  cases A with
  | none =>
    have := none_nil hC
    subst this
    go_enter Try.func21, Try.ntmps21
    go_wp2
    go_ret
    exact ⟨_, rfl, Kd.R_nil _ _ _ _ _, Below.refl _ _⟩
  | some ad =>
    have HC := Lib.hid hC
    clear hC
    go_enter Try.func21, Try.ntmps21
    go_wp2_with ((with_reducible refine gate_builtin (b := .append) (xs := #[.tmp 5, .tmp 6]) rfl ?_); at_builtin; refine Hid.out ?_)
    refine Lib.hid ?_
    refine Kd.R_append_rows (Kd.int .u8) (w0 := w) w.heap.size rfl (.tmp 5) (.tmp 6) 23 5 (.int .u8 0) 1 rfl Try.underlying23 (by kernel_rfl) rfl (by decide) (by omega) (.slice (some ⟨w.heap.size, 0, none⟩) 0 0) [] l (some ad) l.length c (fun _ => True) (fun _ => False) rfl rfl ?aO (rows_of (Kd.C_alloc HC.out (.cells #[] 5))) K_M_u8 (fun _ hk => hk.elim) (fun _ _ => trivial) ?aB ?aS ?aL ?_
    case aO => exact R_empty _ _ _
    case aB => exact below_alloc (Below.refl _ _) _
    case aS => simp
    case aL => have := hn.out; simp; omega
    intro v1 w1 hR hB hG hat
    go_wp2
    go_ret
    exact ⟨_, rfl, by simpa using hR, hB⟩
/-- a row of bytes of one's own is a body -/
theorem body_of {W : World} {base : Nat} {v : Value} {bs : List Int} (h : Kd.R (Kd.int .u8) 5 W base (fun _ => True) v bs) (hn : 0 < bs.length) : BodyAt W v bs ∧ ∀ k, v.ownBlock = some k → base ≤ k := by
  obtain ⟨_, inner, ⟨hl, h2⟩, hr⟩ := h
  rcases h2 with ⟨_, h3⟩ | ⟨g, cap, cur, e1, e2, e3, e4, e5, e6, e7⟩
  · omega
  · refine ⟨⟨g, cap, cur, e1, e3, e4, fun i x hx => ?_⟩, fun k hk => ?_⟩
    · have h5 := hr.2 i x hx
      have hi := (List.getElem?_eq_some_iff.1 hx).1
      have h6 : (inner.drop (i * 1)).take 1 = [.int .u8 x] := h5
      rw [Nat.mul_one] at h6
      have h7 : inner[i]? = some (.int .u8 x) := by
        have := congrArg (fun l : List Value => l[0]?) h6
        simpa using this
      have h8 : (cur.toList.take (bs.length * 1))[i]? = some (.int .u8 x) := by
        rw [show cur.toList.take (bs.length * 1) = inner from e7]
        exact h7
      rw [List.getElem?_take, if_pos (by omega)] at h8
      simpa using h8
    · rw [e1] at hk
      simp only [Value.ownBlock, Option.some.injEq] at hk
      omega
end Go.Proofs.Ytommobflhnphnaa.C
