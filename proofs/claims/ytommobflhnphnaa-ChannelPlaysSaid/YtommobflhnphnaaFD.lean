/- The reference's frames in memory. Conditions: none. -/
import Derived.Test.YtommobflhnphnaaFC
import Derived.Laws.IdiomStrings
namespace Go.Proofs.Ytommobflhnphnaa.C
open Go.RowKit Go.Proofs.Ytommobflhnphnaa.P Go.Proofs.YtommobflhnphnaaBase Go.Proofs.YtommobflhnphnaaW.PrintWords Go.Proofs.YtommobflhnphnaaW.PrintLast Go.Proofs.YtommobflhnphnaaW.PrintMore Go.Maps Go.Lib
set_option linter.unusedVariables false
set_option linter.unusedSimpArgs false

/-- bytes readable, in a block of any mark -/
def FBody (W : World) (v : Value) (bs : List Int) : Prop := (v = .slice none 0 0 ∧ bs = []) ∨ ∃ (g cap : Nat) (cs : Array Value) (fr : Nat × Nat), v = .slice (some ⟨g, 0, none⟩) bs.length cap ∧ W.heap[g]? = some (.cells cs 5 fr) ∧ bs.length ≤ cap ∧ bs.length ≤ 1000000 ∧ ∀ (i : Nat) (x : Int), bs[i]? = some x → cs[i]? = some (.int .u8 x)
def Kept5 (W W' : World) : Prop := ∀ (g : Nat) (cs : Array Value) (fr : Nat × Nat), W.heap[g]? = some (.cells cs 5 fr) → W'.heap[g]? = some (.cells cs 5 fr)
theorem FBody.keep {W W' : World} {v : Value} {bs : List Int} (h : FBody W v bs) (hk : Kept5 W W') : FBody W' v bs := by
  rcases h with h | ⟨g, cap, cs, fr, h1, h2, h3⟩
  · exact .inl h
  · exact .inr ⟨g, cap, cs, fr, h1, hk g cs fr h2, h3⟩
theorem FBody.reads {W : World} {v : Value} {bs : List Int} (h : FBody W v bs) : ∃ A c, v = .slice A bs.length c ∧ bs.length ≤ c ∧ Kd.C (Kd.int .u8) W A bs.length bs := by
  rcases h with ⟨rfl, rfl⟩ | ⟨g, cap, cs, fr, rfl, h2, h3, h4, h5⟩
  · exact ⟨none, 0, rfl, Nat.le_refl _, rfl, by simp, fun h => absurd h (Nat.lt_irrefl 0)⟩
  · refine ⟨_, cap, rfl, h3, rfl, by omega, fun _ => ⟨_, rfl, fun j x hx => ⟨[.int .u8 x], rfl, rfl, fun i u hu => ?_⟩⟩⟩
    have hi : i = 0 := by have := (List.getElem?_eq_some_iff.1 hu).1; simpa using this
    subst hi
    have e : (⟨g, 0, none⟩ : Addr).add (j * (Kd.int .u8).sz + 0) = ⟨g, 0 + (j * 1 + 0), none⟩ := addr_add _ _ _
    rw [e, cell_blk h2, show 0 + (j * 1 + 0) = j by omega, h5 j x hx]
    simpa using hu
theorem FBody.one {W : World} {v : Value} {bs : List Int} (h : FBody W v bs) : v.oneCell' = true := by
  rcases h with ⟨rfl, _⟩ | ⟨g, cap, cs, fr, rfl, _⟩ <;> rfl
def frRow (f : S25) (vb : Value) : List Value := [.int .i64 f.f0, .int .i64 f.f1, .int .i64 f.f2, vb]
/-- frames told by the reference -/
def FrOut (W : World) (base : Nat) (v : Value) (fs : List S25) : Prop := ∃ rows : List (List Value), rows.length = fs.length ∧ Kd.R (Kd.raw 4) 25 W base (fun _ => True) v rows ∧ ∀ (k : Nat) (f : S25) (r : List Value), fs[k]? = some f → rows[k]? = some r → ∃ vb, r = frRow f vb ∧ FBody W vb f.f3
theorem FrOut.nil (W : World) (base : Nat) : FrOut W base (.slice none 0 0) [] := ⟨[], rfl, Kd.R_nil _ _ _ _ _, fun k f r h => by cases h⟩
theorem Kept5.below {W W' : World} (hb : Below W.heap.size W W') : Kept5 W W' := fun g cs fr h => keep_blk hb h
theorem FrOut.below {W W' : World} {base : Nat} {v : Value} {fs : List S25} (h : FrOut W base v fs) (hb : Below W.heap.size W W') : FrOut W' base v fs := by
  obtain ⟨rows, h1, h2, h3⟩ := h
  refine ⟨rows, h1, Kd.R_below h2 hb, fun k f r hf hr => ?_⟩
  obtain ⟨vb, e, hB⟩ := h3 k f r hf hr
  exact ⟨vb, e, hB.keep (Kept5.below hb)⟩
theorem FrOut.ons {W W' : World} {base g : Nat} {t : TypeId} {cs : Array Value} {v : Value} {fs : List S25} (h : FrOut W base v fs) (hg : W.heap[g]? = some (.cells cs t (0, 0))) (ht : t ≠ 25 ∧ t ≠ 5) (ho : Ons (one g) W W') : FrOut W' base v fs := by
  obtain ⟨rows, h1, h2, h3⟩ := h
  refine ⟨rows, h1, Kd.R_mono (Kd.R_step (Kd.R_types h2 hg (fun q hq => ?_)) (fun k hk hlt => ho.blk k hlt (fun e => hk.2 e))) (fun _ _ => trivial), fun k f r hf hr => ?_⟩
  · have : q = 25 := by simpa [Kd.raw] using hq
    subst this
    exact fun e => ht.1 e.symm
  · obtain ⟨vb, e, hB⟩ := h3 k f r hf hr
    refine ⟨vb, e, hB.keep (fun g' cs' fr hg' => ?_)⟩
    rw [ho.blk g' (lt_blk hg') (fun e => ?_)]
    · exact hg'
    · have e' : g' = g := e
      subst e'
      rw [hg'] at hg
      injection hg with hg
      injection hg with _ hg _
      exact ht.2 hg.symm
theorem FrOut.push {W w1 : World} {base : Nat} {v v1 vb : Value} {fs : List S25} {f : S25} {rows : List (List Value)} (h1 : rows.length = fs.length) (h2 : Kd.R (Kd.raw 4) 25 W base (fun _ => True) v rows) (h3 : ∀ (k : Nat) (f : S25) (r : List Value), fs[k]? = some f → rows[k]? = some r → ∃ vb, r = frRow f vb ∧ FBody W vb f.f3)
    (hb : FBody W vb f.f3) (hg : W.grownBy w1 v.ownBlock) (hR : Kd.R (Kd.raw 4) 25 w1 base (fun _ => True) v1 (rows ++ [frRow f vb])) : FrOut w1 base v1 (fs ++ [f]) := by
  have hk : Kept5 W w1 := fun g cs fr h => by
    rw [hg.block g (lt_blk h) (fun e => ?_)]
    · exact h
    · obtain ⟨inner, ho⟩ := Kd.R_own h2
      obtain ⟨cells, hc⟩ := own_typed ho g e.symm
      rw [hc] at h
      injection h with h
      injection h with _ h _
      cases h
  refine ⟨rows ++ [frRow f vb], by simp [h1], hR, fun k f' r hf hr => ?_⟩
  by_cases hk' : k < fs.length
  · rw [List.getElem?_append_left hk'] at hf
    rw [List.getElem?_append_left (by omega)] at hr
    obtain ⟨vb', e, hB⟩ := h3 k f' r hf hr
    exact ⟨vb', e, hB.keep hk⟩
  · rw [List.getElem?_append_right (by omega)] at hf
    rw [List.getElem?_append_right (by omega), h1] at hr
    have hk0 : k - fs.length = 0 := by
      have := (List.getElem?_eq_some_iff.1 hf).1
      simp at this
      omega
    rw [hk0] at hf hr
    simp only [List.getElem?_cons_zero, Option.some.injEq] at hf hr
    subst hf
    subst hr
    exact ⟨vb, rfl, hb.keep hk⟩
theorem FrOut.reads {W : World} {base : Nat} {v : Value} {fs : List S25} (h : FrOut W base v fs) (hn : fs.length ≤ 1000) : ∃ A c, v = .slice A fs.length c ∧ fs.length ≤ c ∧ Kd.C k25 W A fs.length fs := by
  obtain ⟨rows, h1, h2, h3⟩ := h
  obtain ⟨A, c, e, hl, hC⟩ := Kd.R_reads h2
  rw [h1] at e hl hC
  refine ⟨A, c, e, hl, rfl, by omega, fun hne => ?_⟩
  obtain ⟨ad, ea, hh⟩ := hC.2.2 hne
  refine ⟨ad, ea, fun j f hf => ?_⟩
  have hj := (List.getElem?_eq_some_iff.1 hf).1
  have hr : rows[j]? = some (rows[j]'(by omega)) := List.getElem?_eq_getElem (by omega)
  obtain ⟨vb, er, hB⟩ := h3 j f _ hf hr
  rw [er] at hr
  obtain ⟨cs, hlen, hK, hcell⟩ := hh j _ hr
  obtain ⟨rfl, _, _⟩ := hK
  obtain ⟨A', c', rfl, hl', hC'⟩ := hB.reads
  exact ⟨frRow f (.slice A' f.f3.length c'), rfl, k25_mk W f hl' hC', hcell⟩
theorem frRow_ok {f : S25} {vb : Value} (h : vb.oneCell' = true) : frRow f vb = frRow f vb ∧ (frRow f vb).length = 4 ∧ ∀ u ∈ frRow f vb, u.oneCell' = true := ⟨rfl, rfl, fun u hu => by
  simp only [frRow, List.mem_cons, List.not_mem_nil, or_false] at hu
  rcases hu with rfl | rfl | rfl | rfl
  · rfl
  · rfl
  · rfl
  · exact h⟩
def ByteL (bs : List Int) : Prop := ∀ x ∈ bs, 0 ≤ x ∧ x ≤ 255
def cvCap (w : World) (bs : List Int) : Nat := grownCap w bs.length 0 5
def cvRow (w : World) (bs : List Int) : Array Value := bytesRow (strOfNums bs) (cvCap w bs)
theorem conv_sb (w : World) (bs : List Int) : (convert 9 23 (.string (strOfNums bs))).run Try.prog w = .ok (.slice (some ⟨w.heap.size, 0, none⟩) bs.length (cvCap w bs)) (w.drew.alloc (.cells (cvRow w bs) 5 ((cvRow w bs).size, (cvRow w bs).size + 1))) := by
  have := run_bytes_of_string (P := Try.prog) w 9 23 5 (strOfNums bs) Try.underlying9 Try.underlying23 Try.underlying5
  rw [strOfNums_size] at this
  exact this
theorem cv_cells {w : World} {bs : List Int} (hb : ByteL bs) (i : Nat) (x : Int) (hx : bs[i]? = some x) : (cvRow w bs)[i]? = some (.int .u8 x) := by
  obtain ⟨hi, e⟩ := List.getElem?_eq_some_iff.1 hx
  have h0 := hb x (List.mem_of_getElem? hx)
  unfold cvRow bytesRow
  rw [Array.getElem?_append_left (by simp [strOfNums]; exact hi)]
  simp only [strOfNums, Array.getElem?_map, List.getElem?_toArray, List.getElem?_map, hx, Option.map_some]
  congr 2
  have : (UInt8.ofNat x.toNat).toNat = x.toNat := by
    rw [UInt8.toNat_ofNat']
    omega
  rw [this]
  omega
end Go.Proofs.Ytommobflhnphnaa.C
