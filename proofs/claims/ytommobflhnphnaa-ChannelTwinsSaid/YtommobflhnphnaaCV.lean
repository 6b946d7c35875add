/- What an end does, in plain lists: what always holds of it. Conditions: none. -/
import Derived.Test.YtommobflhnphnaaCR
namespace Go.Proofs.Ytommobflhnphnaa.C
open Go.RowKit Go.Proofs.Ytommobflhnphnaa.P
set_option linter.unusedVariables false
set_option linter.unusedSimpArgs false

/-- what always holds of an end; t: how many frames it took -/
structure Good (c : Ch) (t : Int) : Prop where
  conn : c.conn = 1 ∨ c.conn ≠ 0
  q : GoodQ c.q
  next : 1 ≤ c.next ∧ c.next ≤ 1099511627777
  want : 1 ≤ c.want ∧ c.want ≤ 1 + 4 * t
  el : ∀ p ∈ c.el, c.want < p.1 ∧ p.1 < c.want + 4
  nd : (c.el.map (·.1)).Nodup
  seq : ∀ (i : Nat) (p : Pa), c.q[i]? = some p → p.seq = c.next - c.q.length + i
  lq : (c.q.length : Int) + 1 ≤ c.next
theorem Good.fresh (conn : Int) (h : conn ≠ 0) : Good (ch0 conn) 0 where
  conn := .inr h
  q := ⟨Nat.zero_le _, fun p hp => nomatch hp⟩
  next := ⟨Int.le_refl 1, by show (1 : Int) ≤ _; omega⟩
  want := ⟨Int.le_refl 1, by show (1 : Int) ≤ _; omega⟩
  el := fun p hp => nomatch hp
  nd := List.nodup_nil
  seq := fun i p hp => by simp [ch0] at hp
  lq := by show ((0 : Nat) : Int) + 1 ≤ 1; omega
theorem Good.mono {c : Ch} {t t' : Int} (h : Good c t) (ht : t ≤ t') : Good c t' := { h with want := ⟨h.want.1, by have := h.want.2; omega⟩ }
theorem nodup_range {l : List Int} (nd : l.Nodup) {a : Int} {k : Nat} (h : ∀ x ∈ l, a < x ∧ x < a + k) : l.length ≤ k - 1 := by
  have key : ∀ (k : Nat) (l : List Int), l.Nodup → (∀ x ∈ l, a < x ∧ x < a + k) → l.length ≤ k - 1 := by
    intro k
    induction k with
    | zero =>
      intro l _ h
      cases l with
      | nil => simp
      | cons x r => have := h x (by simp); omega
    | succ k ih =>
      intro l nd h
      by_cases hm : (a + k) ∈ l
      · have h1 : (l.erase (a + k)).length = l.length - 1 := List.length_erase_of_mem hm
        have h2 := ih (l.erase (a + k)) (nd.erase _) (fun x hx => by
          have h3 := (List.Nodup.mem_erase_iff nd).1 hx
          have h4 := h x h3.2
          have := h3.1
          omega)
        by_cases hk : k = 0
        · subst hk
          have := h _ hm
          omega
        · omega
      · have h2 := ih l nd (fun x hx => by
          have h4 := h x hx
          have : x ≠ a + k := fun e => hm (e ▸ hx)
          omega)
        omega
  exact key k l nd h
theorem Good.el3 {c : Ch} {t : Int} (h : Good c t) : c.el.length ≤ 3 := by
  have := nodup_range (k := 4) h.nd (a := c.want) (fun x hx => by
    obtain ⟨p, hp, rfl⟩ := List.mem_map.1 hx
    exact h.el p hp)
  rw [List.length_map] at this
  omega
theorem Good.send {c : Ch} {t : Int} (h : Good c t) (bs : List Int) : Good (sendF c bs).1 t := by
  unfold sendF
  split
  · exact h
  split
  · exact h
  split
  · exact h
  split
  · exact h
  next h1 h2 h3 h4 =>
  refine ⟨h.conn, ⟨by simp; omega, fun p hp => ?_⟩, ⟨by have := h.next; show 1 ≤ c.next + 1; omega, by show c.next + 1 ≤ _; omega⟩, h.want, h.el, h.nd, fun i p hp => ?_, ?_⟩
  · rcases List.mem_append.1 hp with hp | hp
    · exact h.q.2 p hp
    · have : p = (⟨c.next, bs, false, 0, false⟩ : Pa) := by simpa using hp
      subst this
      exact ⟨by show (0 : Int) ≤ 0; omega, by show (0 : Int) ≤ 2; omega, by show 0 < bs.length; omega, by show bs.length ≤ _; omega⟩
  · show p.seq = c.next + 1 - ((c.q ++ [(⟨c.next, bs, false, 0, false⟩ : Pa)]).length : Nat) + i
    rw [List.length_append, List.length_singleton]
    by_cases hi : i < c.q.length
    · have hp' : c.q[i]? = some p := by rw [← hp]; exact (List.getElem?_append_left hi).symm
      have := h.seq i p hp'
      omega
    · have hl := (List.getElem?_eq_some_iff.1 hp).1
      have hl2 : i < (c.q ++ [(⟨c.next, bs, false, 0, false⟩ : Pa)]).length := hl
      rw [List.length_append, List.length_singleton] at hl2
      have hi2 : i = c.q.length := by omega
      subst hi2
      have : p = (⟨c.next, bs, false, 0, false⟩ : Pa) := by
        have h5 : (c.q ++ [(⟨c.next, bs, false, 0, false⟩ : Pa)])[c.q.length]? = some p := hp
        simpa using h5.symm
      subst this
      show c.next = _
      omega
  · show ((c.q ++ [(⟨c.next, bs, false, 0, false⟩ : Pa)]).length : Int) + 1 ≤ c.next + 1
    rw [List.length_append, List.length_singleton]
    have := h.lq
    omega
theorem acked_drop (ack : Int) (q : List Pa) : ∃ n, ackedF ack q = q.drop n ∧ n ≤ q.length ∧ ∀ (i : Nat) (p : Pa), q[i]? = some p → i < n → p.seq ≤ ack ∧ p.sent = true := by
  induction q with
  | nil => exact ⟨0, rfl, Nat.le_refl _, fun i p hp => by simp at hp⟩
  | cons p r ih =>
    obtain ⟨n, h1, h2, h3⟩ := ih
    simp only [ackedF]
    split
    · next hc =>
      refine ⟨n + 1, by rw [h1]; rfl, by simp; omega, fun i p' hp hi => ?_⟩
      cases i with
      | zero => simp at hp; subst hp; exact hc
      | succ i => exact h3 i p' (by simpa using hp) (by omega)
    · exact ⟨0, rfl, Nat.zero_le _, fun i p' hp hi => by omega⟩
theorem Good.acked {c : Ch} {t : Int} (h : Good c t) (ack : Int) : Good { c with q := ackedF ack c.q } t := by
  obtain ⟨n, h1, h2, h3⟩ := acked_drop ack c.q
  refine ⟨h.conn, ⟨?_, fun p hp => ?_⟩, h.next, h.want, h.el, h.nd, fun i p hp => ?_, ?_⟩
  · show (ackedF ack c.q).length ≤ 32
    rw [h1, List.length_drop]
    have := h.q.1
    omega
  · have hp' : p ∈ ackedF ack c.q := hp
    rw [h1] at hp'
    exact h.q.2 p (List.mem_of_mem_drop hp')
  · show p.seq = c.next - ((ackedF ack c.q).length : Nat) + i
    have hp' : (ackedF ack c.q)[i]? = some p := hp
    rw [h1, List.getElem?_drop] at hp'
    have := h.seq _ p hp'
    rw [h1, List.length_drop]
    omega
  · show ((ackedF ack c.q).length : Int) + 1 ≤ c.next
    rw [h1, List.length_drop]
    have := h.lq
    omega
theorem Good.owe {c : Ch} {t : Int} (h : Good c t) (o : Bool) : Good { c with owes := o } t := ⟨h.conn, h.q, h.next, h.want, h.el, h.nd, h.seq, h.lq⟩
theorem find_mem {el : El} {z : Int} {bs : List Int} (h : find el z = some bs) : (z, bs) ∈ el := by
  unfold find at h
  obtain ⟨p, hp, rfl⟩ := Option.map_eq_some_iff.1 h
  have h1 := List.find?_some hp
  have h2 := List.mem_of_find?_eq_some hp
  have : p.1 = z := by simpa using h1
  rw [← this]
  exact h2
theorem find_iff {el : El} (nd : (el.map (·.1)).Nodup) {z : Int} {bs : List Int} : find el z = some bs ↔ (z, bs) ∈ el := by
  refine ⟨find_mem, fun hm => ?_⟩
  cases hf : find el z with
  | none => exact absurd (List.mem_map_of_mem hm (f := (·.1))) (find_none hf)
  | some b2 =>
    have h2 := find_mem hf
    induction el with
    | nil => cases hm
    | cons p r ih =>
      rw [List.map_cons, List.nodup_cons] at nd
      rcases List.mem_cons.1 hm with rfl | hm'
      · rcases List.mem_cons.1 h2 with h3 | h3
        · injection h3 with _ h3; rw [h3]
        · exact absurd (List.mem_map_of_mem h3 (f := (·.1))) nd.1
      · rcases List.mem_cons.1 h2 with rfl | h3
        · exact absurd (List.mem_map_of_mem hm' (f := (·.1))) nd.1
        · have hne : (p.1 == z) = false := by
            have : p.1 ≠ z := fun e => nd.1 (e ▸ List.mem_map_of_mem hm' (f := (·.1)))
            simpa using this
          refine ih nd.2 hm' ?_ h3
          unfold find at hf ⊢
          rw [List.find?_cons, hne] at hf
          exact hf
/-- what draining leaves -/
theorem drain_spec : ∀ (n : Nat) (el : El) (w : Int), el.length ≤ n → (el.map (·.1)).Nodup → (∀ p ∈ el, w ≤ p.1) →
    w ≤ (drain n el w).2.2 ∧ (drain n el w).2.1 = el.filter (fun p => decide ((drain n el w).2.2 ≤ p.1)) ∧ find (drain n el w).2.1 (drain n el w).2.2 = none ∧ ((drain n el w).1.length : Int) = (drain n el w).2.2 - w ∧ ∀ (i : Nat) (bs : List Int), (drain n el w).1[i]? = some bs → find el (w + i) = some bs := by
  intro n
  induction n with
  | zero =>
    intro el w hn nd lo
    have : el = [] := List.eq_nil_of_length_eq_zero (by omega)
    subst this
    exact ⟨Int.le_refl _, rfl, rfl, by simp [drain], fun i bs h => by simp [drain] at h⟩
  | succ n ih =>
    intro el w hn nd lo
    cases hf : find el w with
    | none =>
      rw [drain_none hf]
      refine ⟨Int.le_refl _, ?_, hf, by simp, fun i bs h => by simp at h⟩
      show el = el.filter _
      rw [List.filter_eq_self.2]
      intro p hp
      simpa using lo p hp
    | some bs =>
      have hlen := strike_len nd hf
      have lo' : ∀ p ∈ strike el w, w + 1 ≤ p.1 := fun p hp => by
        unfold strike at hp
        rw [List.mem_filter] at hp
        have h1 := lo p hp.1
        have h2 : p.1 ≠ w := by simpa using hp.2
        omega
      obtain ⟨h1, h2, h3, h4, h5⟩ := ih (strike el w) (w + 1) (by omega) (strike_nd nd w) lo'
      rw [drain_some hf]
      refine ⟨by show w ≤ (drain n (strike el w) (w + 1)).2.2; omega, ?_, h3, ?_, fun i b hb => ?_⟩
      · show (drain n (strike el w) (w + 1)).2.1 = el.filter (fun p => decide ((drain n (strike el w) (w + 1)).2.2 ≤ p.1))
        conv => lhs; rw [h2]
        unfold strike
        rw [List.filter_filter]
        apply List.filter_congr
        intro p hp
        unfold strike at h1
        by_cases e : p.1 = w
        · simp [e]
          omega
        · simp [e]
      · show ((bs :: (drain n (strike el w) (w + 1)).1).length : Int) = (drain n (strike el w) (w + 1)).2.2 - w
        rw [List.length_cons]
        omega
      · cases i with
        | zero =>
          have : bs = b := by simpa using hb
          subst this
          rw [show w + ((0 : Nat) : Int) = w by omega]
          exact hf
        | succ i =>
          have hb' : (drain n (strike el w) (w + 1)).1[i]? = some b := by simpa using hb
          have h6 := h5 i b hb'
          rw [find_strike, if_neg (by omega)] at h6
          rw [show w + ((i + 1 : Nat) : Int) = w + 1 + i by omega]
          exact h6
theorem elF_nd {c : Ch} {f : S25} (h : (c.el.map (·.1)).Nodup) : ((elF c f).map (·.1)).Nodup := by
  unfold elF
  split
  · exact h
  · next hf =>
    rw [List.map_append, List.nodup_append]
    refine ⟨h, by simp, fun x hx y hy => ?_⟩
    have : y = f.f1 := by simpa using hy
    subst this
    rintro rfl
    exact find_none hf hx
theorem elF_mem {c : Ch} {f : S25} {p : Int × List Int} (h : p ∈ elF c f) : p ∈ c.el ∨ p = (f.f1, f.f3) := by
  unfold elF at h
  split at h
  · exact .inl h
  · rcases List.mem_append.1 h with h | h
    · exact .inl h
    · exact .inr (by simpa using h)
theorem drain_top {n : Nat} {el : El} {w b : Int} (hn : el.length ≤ n) (nd : (el.map (·.1)).Nodup) (lo : ∀ p ∈ el, w ≤ p.1) (hi : ∀ p ∈ el, p.1 < b) (hb : w ≤ b) : (drain n el w).2.2 ≤ b := by
  obtain ⟨h1, h2, h3, h4, h5⟩ := drain_spec n el w hn nd lo
  by_cases e : (drain n el w).2.2 ≤ w
  · omega
  · have hlen : (drain n el w).1.length - 1 < (drain n el w).1.length := by omega
    have h6 := find_mem (h5 _ _ (List.getElem?_eq_getElem hlen))
    have h7 := hi _ h6
    simp only at h7
    omega
theorem Good.take {c : Ch} {t : Int} (h : Good c t) (f : S25) (ht : 0 ≤ t) : Good (takeF c f).1 (t + 1) := by
  unfold takeF
  split
  · exact h.mono (by omega)
  split
  · exact h.mono (by omega)
  split
  · exact (h.acked _).mono (by omega)
  split
  · exact ((h.acked _).owe true).mono (by omega)
  next h1 h2 h3 h4 =>
  have hw : c.want ≤ f.f1 ∧ f.f1 < c.want + 4 := by omega
  have nd := elF_nd (f := f) h.nd
  have lo : ∀ p ∈ elF c f, c.want ≤ p.1 ∧ p.1 < c.want + 4 := fun p hp => by
    rcases elF_mem hp with hp | rfl
    · have := h.el p hp; omega
    · exact hw
  obtain ⟨d1, d2, d3, d4, d5⟩ := drain_spec (elF c f).length (elF c f) c.want (Nat.le_refl _) nd (fun p hp => (lo p hp).1)
  have top := drain_top (Nat.le_refl _) nd (fun p hp => (lo p hp).1) (fun p hp => (lo p hp).2) (by omega)
  have hg := (h.acked f.f2).owe true
  have hww := h.want
  refine ⟨hg.conn, hg.q, hg.next, ⟨by show 1 ≤ (drain _ _ _).2.2; omega, by show (drain _ _ _).2.2 ≤ _; omega⟩, fun p hp => ?_, ?_, hg.seq, hg.lq⟩
  · have hp' : p ∈ (drain (elF c f).length (elF c f) c.want).2.1 := hp
    have hne : p.1 ≠ (drain (elF c f).length (elF c f) c.want).2.2 := fun e => find_none d3 (e ▸ List.mem_map_of_mem hp' (f := (·.1)))
    rw [d2, List.mem_filter] at hp'
    have h5 := lo p hp'.1
    have h6 : (drain (elF c f).length (elF c f) c.want).2.2 ≤ p.1 := by simpa using hp'.2
    constructor
    · show (drain (elF c f).length (elF c f) c.want).2.2 < p.1; omega
    · show p.1 < (drain (elF c f).length (elF c f) c.want).2.2 + 4; omega
  · show ((drain (elF c f).length (elF c f) c.want).2.1.map (·.1)).Nodup
    rw [d2]
    exact List.Nodup.sublist (List.Sublist.map _ List.filter_sublist) nd
theorem Good.tick {c : Ch} {t : Int} (h : Good c t) : Good { c with q := c.q.map tickP } t := by
  have hseq : ∀ p, (tickP p).seq = p.seq := fun p => by unfold tickP; split <;> (try split) <;> rfl
  refine ⟨h.conn, ⟨by show (c.q.map tickP).length ≤ 32; rw [List.length_map]; exact h.q.1, fun p hp => ?_⟩, h.next, h.want, h.el, h.nd, fun i p hp => ?_, by show ((c.q.map tickP).length : Int) + 1 ≤ _; rw [List.length_map]; exact h.lq⟩
  · obtain ⟨p0, hp0, rfl⟩ := List.mem_map.1 hp
    obtain ⟨a1, a2, a3, a4⟩ := h.q.2 p0 hp0
    unfold tickP
    split
    · split
      · exact ⟨by show (0 : Int) ≤ 0; omega, by show (0 : Int) ≤ 2; omega, a3, a4⟩
      · exact ⟨by show 0 ≤ p0.age + 1; omega, by show p0.age + 1 ≤ 2; omega, a3, a4⟩
    · exact ⟨a1, a2, a3, a4⟩
  · have hp' : (c.q.map tickP)[i]? = some p := hp
    rw [List.getElem?_map] at hp'
    obtain ⟨p0, hp0, rfl⟩ := Option.map_eq_some_iff.1 hp'
    show (tickP p0).seq = c.next - ((c.q.map tickP).length : Nat) + i
    rw [hseq, List.length_map]
    exact h.seq i p0 hp0
theorem outP_seq (p : Pa) : (outP p).seq = p.seq ∧ (outP p).body = p.body := by unfold outP; split <;> exact ⟨rfl, rfl⟩
theorem outQ_len (q : List Pa) : (outQ q).length = q.length := mapK_len _ _ _
theorem outQ_get (q : List Pa) (j : Nat) : (outQ q)[j]? = if j < 4 then (q[j]?).map outP else q[j]? := by
  unfold outQ
  rw [mapK_get]
  by_cases h : j < q.length
  · by_cases h4 : j < 4
    · rw [if_pos (by omega), if_pos h4]
    · rw [if_neg (by omega), if_neg h4]
  · rw [if_neg (by omega)]
    have : q[j]? = none := List.getElem?_eq_none (by omega)
    rw [this]
    split <;> rfl
theorem Good.out {c : Ch} {t : Int} (h : Good c t) : Good (outC c) t := by
  refine ⟨h.conn, ⟨by show (outQ c.q).length ≤ 32; rw [outQ_len]; exact h.q.1, fun p hp => ?_⟩, h.next, h.want, h.el, h.nd, fun i p hp => ?_, by show ((outQ c.q).length : Int) + 1 ≤ _; rw [outQ_len]; exact h.lq⟩
  · obtain ⟨i, hi⟩ := List.getElem?_of_mem (show p ∈ outQ c.q from hp)
    rw [outQ_get] at hi
    split at hi
    · obtain ⟨p0, hp0, rfl⟩ := Option.map_eq_some_iff.1 hi
      obtain ⟨a1, a2, a3, a4⟩ := h.q.2 p0 (List.mem_of_getElem? hp0)
      unfold outP
      split
      · exact ⟨a1, a2, a3, a4⟩
      · exact ⟨by show (0 : Int) ≤ 0; omega, by show (0 : Int) ≤ 2; omega, a3, a4⟩
    · exact h.q.2 p (List.mem_of_getElem? hi)
  · have hp' : (outQ c.q)[i]? = some p := hp
    show p.seq = c.next - ((outQ c.q).length : Nat) + i
    rw [outQ_len]
    rw [outQ_get] at hp'
    split at hp'
    · obtain ⟨p0, hp0, rfl⟩ := Option.map_eq_some_iff.1 hp'
      rw [(outP_seq p0).1]
      exact h.seq i p0 hp0
    · exact h.seq i p hp'
theorem send_conn (c : Ch) (bs : List Int) : (sendF c bs).1.conn = c.conn := by unfold sendF; repeat' (first | rfl | split)
theorem take_connF (c : Ch) (f : S25) : (takeF c f).1.conn = c.conn := by unfold takeF; repeat' (first | rfl | split)
end Go.Proofs.Ytommobflhnphnaa.C
