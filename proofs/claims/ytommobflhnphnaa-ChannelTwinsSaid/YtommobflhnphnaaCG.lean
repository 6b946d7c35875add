/- slices.Clone of the queue. Conditions: at most a thousand places. -/
import Derived.Test.YtommobflhnphnaaCF
namespace Go.Proofs.Ytommobflhnphnaa.C
open Go.RowKit Go.Proofs.Ytommobflhnphnaa.P Go.Proofs.YtommobflhnphnaaBase Go.Proofs.YtommobflhnphnaaW.PrintWords Go.Proofs.YtommobflhnphnaaW.PrintLast Go.Maps Go.Lib
set_option linter.unusedVariables false
set_option linter.unusedSimpArgs false

/-- a place of the queue as its cells are -/
def IsRow (W : World) (p : Pa) (r : List Value) : Prop := ∃ vb, r = [.int .i64 p.seq, vb, .bool p.sent, .int .i64 p.age, .bool p.due] ∧ BodyAt W vb p.body
theorem IsRow.keep {W W' : World} {p : Pa} {r : List Value} (h : IsRow W p r) (hk : Kept 5 W W') : IsRow W' p r := by
  obtain ⟨vb, h1, h2⟩ := h
  exact ⟨vb, h1, h2.keep hk⟩
theorem body_one {W : World} {v : Value} {bs : List Int} (h : BodyAt W v bs) : v.oneCell' = true := by
  obtain ⟨g, cap, cs, rfl, _⟩ := h
  rfl
theorem IsRow.one {W : World} {p : Pa} {r : List Value} (h : IsRow W p r) : r.length = 5 ∧ ∀ u ∈ r, u.oneCell' = true := by
  obtain ⟨vb, rfl, h2⟩ := h
  refine ⟨rfl, fun u hu => ?_⟩
  simp only [List.mem_cons, List.not_mem_nil, or_false] at hu
  rcases hu with rfl | rfl | rfl | rfl | rfl
  · rfl
  · exact body_one h2
  · rfl
  · rfl
  · rfl
theorem PaAt.row {W : World} {cs : Array Value} {o : Nat} {p : Pa} (h : PaAt W cs o p) : ∃ r, IsRow W p r ∧ ∀ j u, r[j]? = some u → cs[o + j]? = some u := by
  obtain ⟨vb, h0, h1, h2, h3, h4, h5⟩ := h
  refine ⟨_, ⟨vb, rfl, h2⟩, fun j u hu => ?_⟩
  match j, hu with
  | 0, hu => simpa using h0.trans hu
  | 1, hu => simpa using h1.trans hu
  | 2, hu => simpa using h3.trans hu
  | 3, hu => simpa using h4.trans hu
  | 4, hu => simpa using h5.trans hu
theorem QAt.rows {W : World} {A : Option Addr} {q : List Pa} (h : QAt W A q) (hn : q.length ≤ 1000) : ∃ raws : List (List Value), raws.length = q.length ∧ Kd.C (Kd.raw 5) W A q.length raws ∧ ∀ (k : Nat) (p : Pa) (r : List Value), q[k]? = some p → raws[k]? = some r → IsRow W p r := by
  by_cases hq : q = []
  · subst hq
    exact ⟨[], rfl, ⟨rfl, by simp, fun h => absurd h (by simp)⟩, fun k p r hp => by simp at hp⟩
  · obtain ⟨g, off, cs, rfl, h2, h3⟩ := h hq
    have pick : ∀ n, n ≤ q.length → ∃ raws : List (List Value), raws.length = n ∧ ∀ (k : Nat) (r : List Value), raws[k]? = some r → ∃ p, q[k]? = some p ∧ IsRow W p r ∧ ∀ j u, r[j]? = some u → cs[off + k * 5 + j]? = some u := by
      intro n
      induction n with
      | zero => exact fun _ => ⟨[], rfl, fun k r hr => by simp at hr⟩
      | succ n ih =>
        intro hn
        obtain ⟨raws, e1, e2⟩ := ih (by omega)
        obtain ⟨r, r1, r2⟩ := (h3 n q[n] (List.getElem?_eq_getElem (by omega))).row
        refine ⟨raws ++ [r], by simp [e1], fun k r' hr' => ?_⟩
        by_cases hk : k < raws.length
        · rw [List.getElem?_append_left hk] at hr'
          exact e2 k r' hr'
        · rw [List.getElem?_append_right (by omega)] at hr'
          have hk2 : k - raws.length = 0 := by
            have := (List.getElem?_eq_some_iff.1 hr').1
            simp at this
            omega
          rw [hk2] at hr'
          simp only [List.getElem?_cons_zero, Option.some.injEq] at hr'
          subst hr'
          have hkn : k = n := by omega
          subst hkn
          exact ⟨q[k], List.getElem?_eq_getElem (by omega), r1, r2⟩
    obtain ⟨raws, e1, e2⟩ := pick q.length (Nat.le_refl _)
    refine ⟨raws, e1, ⟨e1, by omega, fun _ => ⟨_, rfl, fun j r hr => ?_⟩⟩, fun k p r hp hr => ?_⟩
    · obtain ⟨p, hp, hrow, hcell⟩ := e2 j r hr
      obtain ⟨hl, ho⟩ := hrow.one
      refine ⟨r, hl, ⟨rfl, hl, ho⟩, fun i u hu => ?_⟩
      have e : (⟨g, off, none⟩ : Addr).add (j * (Kd.raw 5).sz + i) = ⟨g, off + j * 5 + i, none⟩ := by
        show (⟨g, off, none⟩ : Addr).add (j * 5 + i) = _
        unfold Addr.add
        split
        · next h0 => simp at h0; simp [h0]
        · simp [Nat.add_assoc]
      rw [e, cell_blk h2]
      exact hcell i u hu
    · obtain ⟨p', hp', hrow, _⟩ := e2 k r hr
      rw [hp] at hp'
      injection hp' with hp'
      rw [hp']
      exact hrow
theorem q_of {W : World} {base : Nat} {v : Value} {raws : List (List Value)} {q : List Pa} (h : Kd.R (Kd.raw 5) 84 W base (fun _ => True) v raws) (hl : raws.length = q.length) (hr : ∀ (k : Nat) (p : Pa) (r : List Value), q[k]? = some p → raws[k]? = some r → IsRow W p r) :
    ∃ A c, v = .slice A q.length c ∧ QAt W A q ∧ q.length ≤ c ∧ (q ≠ [] → ∃ g, A = some ⟨g, 0, none⟩ ∧ base ≤ g) := by
  obtain ⟨_, inner, ⟨hi, h2⟩, hreps⟩ := h
  rcases h2 with ⟨e1, h3⟩ | ⟨g, cap, cur, e1, e2, e3, e4, e5, e6, e7⟩
  · have hq : q = [] := List.eq_nil_of_length_eq_zero (by omega)
    subst hq
    exact ⟨none, 0, e1, fun h => absurd rfl h, Nat.le_refl _, fun h => absurd rfl h⟩
  · rw [hl] at e1 e4
    refine ⟨_, cap, e1, fun _ => ⟨g, 0, cur, rfl, e3, fun k p hp => ?_⟩, e4, fun _ => ⟨g, rfl, e2⟩⟩
    have hk : k < raws.length := by have := (List.getElem?_eq_some_iff.1 hp).1; omega
    obtain ⟨vb, er, hb⟩ := hr k p _ hp (List.getElem?_eq_getElem hk)
    have h5 := hreps.2 k _ (List.getElem?_eq_getElem hk)
    have h6 : (inner.drop (k * 5)).take 5 = raws[k] := h5.1
    have get : ∀ j u, raws[k][j]? = some u → cur[0 + k * 5 + j]? = some u := by
      intro j u hu
      have hj : j < 5 := by
        have := (List.getElem?_eq_some_iff.1 hu).1
        rw [er] at this
        simpa using this
      rw [← h6, List.getElem?_take, if_pos hj, List.getElem?_drop] at hu
      have h8 : (cur.toList.take (raws.length * 5))[k * 5 + j]? = some u := by
        rw [show cur.toList.take (raws.length * 5) = inner from e7]
        exact hu
      rw [List.getElem?_take, if_pos (by omega)] at h8
      rw [Nat.zero_add]
      simpa using h8
    rw [er] at get
    exact ⟨vb, get 0 _ rfl, get 1 _ rfl, hb, get 2 _ rfl, get 3 _ rfl, get 4 _ rfl⟩
theorem rows_none {W : World} {q : List Pa} (h : QAt W none q) : q = [] := by
  by_cases hq : q = []
  · exact hq
  · obtain ⟨g, off, cs, e, _⟩ := h hq
    cases e
def QOut (W : World) (q : List Pa) (e : Ending) (w' : World) : Prop := ∃ A c, e = .returned (.slice A q.length c) ∧ QAt w' A q ∧ q.length ≤ c ∧ (q ≠ [] → ∃ g, A = some ⟨g, 0, none⟩ ∧ W.heap.size ≤ g) ∧ Below W.heap.size W w'
set_option maxHeartbeats 4000000 in
theorem clone84_c {w : World} {A : Option Addr} {c : Nat} {q : List Pa} (hQ : QAt w A q) (hle : q.length ≤ c) (hn : q.length ≤ 1000) : Calls Try.prog 39 #[.slice A q.length c] w (QOut w q) := by
  have q31 : ∀ (w : World) (a : Option Addr) (n c n' c' : Nat), (binOp .eql 61 (.slice a n c) (.slice none n' c')).run Try.prog w = .ok (.bool a.isNone) w := fun w a n c n' c' => Lib.run_eql_slice_nil w _ _ a n c n' c' Try.underlying61
  cases A with
  | none =>
    have := rows_none hQ
    subst this
    go_enter Try.func39, Try.ntmps39
    go_wp2
    go_ret
    exact ⟨none, 0, rfl, fun h => absurd rfl h, Nat.le_refl _, fun h => absurd rfl h, Below.refl _ _⟩
  | some ad =>
    obtain ⟨raws, hl, hC, hrow⟩ := hQ.rows hn
    have HC := Lib.hid hC
    have HL := Lib.hid hl
    have HR := Lib.hid hrow
    clear hC hQ hl hrow
    go_enter Try.func39, Try.ntmps39
    go_wp2_with ((with_reducible refine gate_builtin (b := .append) (xs := #[.tmp 5, .tmp 6]) rfl ?_); at_builtin; refine Hid.out ?_)
    refine Lib.hid ?_
    refine Kd.R_append_rows (Kd.raw 5) (w0 := w) w.heap.size rfl (.tmp 5) (.tmp 6) 61 84 (.agg #[.int .i64 0, .slice none 0 0, .bool false, .int .i64 0, .bool false]) 56 rfl Try.underlying61 (by kernel_rfl) rfl (by decide) (by omega) (.slice (some ⟨w.heap.size, 0, none⟩) 0 0) [] raws (some ad) q.length c (fun _ => True) (fun _ => False) rfl rfl ?aO (rows_of (Kd.C_alloc HC.out (.cells #[] 84))) (fun x cs h => h) (fun _ hk => hk.elim) (fun _ _ => trivial) ?aB ?aS ?aL ?_
    case aO => exact R_empty _ _ _
    case aB => exact below_alloc (Below.refl _ _) _
    case aS => simp
    case aL => simp; omega
    intro v1 w1 hR hB hG hat
    obtain ⟨A2, c2, rfl, hq2, hc2, hg2⟩ := q_of (q := q) (by simpa using hR) (by simpa using HL.out) (fun k p r hp hr => (HR.out k p r hp (by simpa using hr)).keep (Kept.of hB))
    go_wp2
    go_ret
    exact ⟨A2, c2, rfl, hq2, hc2, hg2, hB⟩
end Go.Proofs.Ytommobflhnphnaa.C
