/- The reference's desk in memory, and its methods, by the same plain functions. Conditions: the desk is one that New made. The reference's methods, by the same plain functions. Conditions: the desk is one that New made. The reference's Seats, Open, Shut and Begin, by the same plain functions. Conditions: the desk is one that New made. The reference's New and Tick. Conditions: none. The desk and the reference's beside each other. Conditions: none. The law DeskPlays walked: its call answers true. Conditions: none. -/
import Derived.Test.YtkfjolhlnhbgjaaDLR
import Derived.Lib.SliceRun
namespace Go.Proofs.Ytkfjolhlnhbgjaa.D
open Go.RowKit Go.Proofs.Ytkfjolhlnhbgjaa.P Go.Proofs.YtkfjolhlnhbgjaaBase Go.Proofs.YtkfjolhlnhbgjaaW.PrintWords Go.Proofs.YtkfjolhlnhbgjaaW.PrintLast Go.Proofs.Ytkfjolhlnhbgjaa.Q Go.Proofs.Ytkfjolhlnhbgjaa.L
set_option linter.unusedVariables false
set_option linter.unusedSimpArgs false

def k73 : Kd G := Kd.iso (Kd.pair (Kd.int .i64) (Kd.pair Kd.bool (Kd.pair (Kd.int .i64) (Kd.pair (Kd.int .i64) (Kd.int .i64))))) (fun x : G => (x.conn, x.opn, x.silent, x.wrong, x.locked))
theorem k73_open {w : World} {x : G} {cs : List Value} (h : k73.K w x cs) : cs = x.cells := by
  obtain ⟨_, _, rfl, rfl, ⟨_, _, rfl, rfl, ⟨_, _, rfl, rfl, ⟨_, _, rfl, rfl, rfl⟩⟩⟩⟩ := h
  exact rfl
theorem k73_openM {w : World} {base : Nat} {ok : Nat → Prop} {x : G} {cs : List Value} (h : k73.M w base ok x cs) : cs = x.cells := by
  obtain ⟨_, _, rfl, rfl, ⟨_, _, rfl, rfl, ⟨_, _, rfl, rfl, ⟨_, _, rfl, rfl, rfl⟩⟩⟩⟩ := h
  exact rfl
theorem k73_mk (w : World) (x : G) : k73.K w x x.cells := ⟨[.int .i64 x.conn], [.bool x.opn, .int .i64 x.silent, .int .i64 x.wrong, .int .i64 x.locked], rfl, rfl, ⟨[.bool x.opn], [.int .i64 x.silent, .int .i64 x.wrong, .int .i64 x.locked], rfl, rfl, ⟨[.int .i64 x.silent], [.int .i64 x.wrong, .int .i64 x.locked], rfl, rfl, ⟨[.int .i64 x.wrong], [.int .i64 x.locked], rfl, rfl, rfl⟩⟩⟩⟩
theorem k73_mkM (w : World) (base : Nat) (ok : Nat → Prop) (x : G) : k73.M w base ok x x.cells := ⟨[.int .i64 x.conn], [.bool x.opn, .int .i64 x.silent, .int .i64 x.wrong, .int .i64 x.locked], rfl, rfl, ⟨[.bool x.opn], [.int .i64 x.silent, .int .i64 x.wrong, .int .i64 x.locked], rfl, rfl, ⟨[.int .i64 x.silent], [.int .i64 x.wrong, .int .i64 x.locked], rfl, rfl, ⟨[.int .i64 x.wrong], [.int .i64 x.locked], rfl, rfl, rfl⟩⟩⟩⟩
/-- a row of guests, with room behind -/
def RowG (W : World) (g : Nat) (gs : List G) : Prop := ∃ spare : List Value, W.heap[g]? = some (.cells (encG gs ++ spare).toArray 73 (0, 0))
theorem RowG.cell {W : World} {g : Nat} {gs : List G} (h : RowG W g gs) (k j : Nat) (hk : k < gs.length) (hj : j < 5) : W.cell? ⟨g, k * 5 + j, none⟩ = (gs.getD k g0).cells[j]? := by
  obtain ⟨spare, h⟩ := h
  rw [cell_blk h, List.getElem?_toArray, List.getElem?_append_left (by rw [encG_len]; omega)]
  exact encG_get gs k j hk hj
theorem RowG.put {W : World} {g : Nat} {gs : List G} (h : RowG W g gs) (k j : Nat) (hk : k < gs.length) (hj : j < 5) (g' : G) (v : Value) (hc : (gs.getD k g0).cells.set j v = g'.cells) : RowG (W.setCell ⟨g, k * 5 + j, none⟩ v) g (gs.set k g') := by
  obtain ⟨spare, h⟩ := h
  refine ⟨spare, ?_⟩
  have := set_blk (k := k * 5 + j) h v
  rw [List.setIfInBounds_toArray, List.set_append_left _ _ (by rw [encG_len]; omega), encG_set gs k j hk hj g' v hc] at this
  exact this
theorem RowG.put' {W : World} {g : Nat} {gs : List G} {k : Nat} {a : G} (h : RowG W g (gs.set k a)) (j : Nat) (hk : k < gs.length) (hj : j < 5) (g' : G) (v : Value) (hc : a.cells.set j v = g'.cells) : RowG (W.setCell ⟨g, k * 5 + j, none⟩ v) g (gs.set k g') := by
  have := h.put k j (by simpa using hk) hj g' v (by rw [show (gs.set k a).getD k g0 = a by simp [hk]]; exact hc)
  rwa [List.set_set] at this
theorem RowG.put5 {W : World} {g : Nat} {gs : List G} (h : RowG W g gs) (k : Nat) (hk : k < gs.length) (a : G) :
    RowG (((((W.setCell ⟨g, k * 5, none⟩ (.int .i64 a.conn)).setCell ⟨g, k * 5 + 1, none⟩ (.bool a.opn)).setCell ⟨g, k * 5 + 2, none⟩ (.int .i64 a.silent)).setCell ⟨g, k * 5 + 3, none⟩ (.int .i64 a.wrong)).setCell ⟨g, k * 5 + 4, none⟩ (.int .i64 a.locked)) g (gs.set k a) := by
  rw [← set_self gs k hk] at h
  generalize gs.getD k g0 = g1 at h
  obtain ⟨c, o, s, r, l⟩ := g1
  obtain ⟨c', o', s', r', l'⟩ := a
  exact ((((h.put' 0 hk (by omega) ⟨c', o, s, r, l⟩ _ rfl).put' 1 hk (by omega) ⟨c', o', s, r, l⟩ _ rfl).put' 2 hk (by omega) ⟨c', o', s', r, l⟩ _ rfl).put' 3 hk (by omega) ⟨c', o', s', r', l⟩ _ rfl).put' 4 hk (by omega) ⟨c', o', s', r', l'⟩ _ rfl
theorem RowG.reads {W : World} {g : Nat} {gs : List G} (h : RowG W g gs) (hn : gs.length ≤ 1000) : Kd.C k73 W (some ⟨g, 0, none⟩) gs.length gs := by
  refine ⟨rfl, by omega, fun _ => ⟨_, rfl, fun j p hp => ⟨p.cells, rfl, k73_mk _ _, fun i u hu => ?_⟩⟩⟩
  have hj := (List.getElem?_eq_some_iff.1 hp).1
  have hi : i < 5 := (List.getElem?_eq_some_iff.1 hu).1
  have := h.cell j i hj hi
  rw [List.getD_eq_getElem?_getD, hp] at this
  have e : (⟨g, 0, none⟩ : Addr).add (j * k73.sz + i) = ⟨g, j * 5 + i, none⟩ := by
    show (⟨g, 0, none⟩ : Addr).add (j * 5 + i) = _
    unfold Addr.add
    split
    · next h0 => simp at h0; simp [h0]
    · simp
  rw [e, this]
  exact hu
theorem row_of {W : World} {base : Nat} {v : Value} {gs : List G} (h : Kd.R k73 73 W base (fun _ => True) v gs) (hn : 0 < gs.length) : ∃ g c, v = .slice (some ⟨g, 0, none⟩) gs.length c ∧ base ≤ g ∧ gs.length ≤ c ∧ RowG W g gs := by
  obtain ⟨_, inner, ⟨hl, h2⟩, hr⟩ := h
  rcases h2 with ⟨_, h3⟩ | ⟨g, cap, cur, e1, e2, e3, e4, e5, e6, e7⟩
  · omega
  · refine ⟨g, cap, e1, e2, e4, cur.toList.drop (gs.length * 5), ?_⟩
    have hi : inner = encG gs := by
      apply List.ext_getElem?
      intro i
      by_cases hi : i < gs.length * 5
      · have hk : i / 5 < gs.length := by omega
        have h5 := hr.2 (i / 5) _ (List.getElem?_eq_getElem hk)
        have h6 := k73_openM h5
        have h7 := encG_get gs (i / 5) (i % 5) hk (by omega)
        rw [List.getD_eq_getElem?_getD, List.getElem?_eq_getElem hk] at h7
        have ei : i / 5 * 5 + i % 5 = i := by omega
        rw [ei] at h7
        rw [h7]
        simp only [Option.getD_some]
        rw [← h6, List.getElem?_take, if_pos (show i % 5 < k73.sz from Nat.mod_lt _ (by decide)), List.getElem?_drop]
        congr 1
        exact ei.symm
      · rw [List.getElem?_eq_none (by rw [hl]; show gs.length * 5 ≤ i; omega), List.getElem?_eq_none (by rw [encG_len]; omega)]
    have e8 : encG gs ++ cur.toList.drop (gs.length * 5) = cur.toList := by
      rw [← hi, ← e7]
      exact List.take_append_drop _ _
    rw [e8]
    exact e3
/-- the reference's desk -/
structure RefAt (w W : World) (b : Nat) (p : Pol) (x : PAt) (g c : Nat) (gs : List G) : Prop where
  d : W.heap[b]? = some (.cells #[.slice x.A0 p.ls.length x.c0, .slice x.A1 p.qs.length x.c1, .slice x.A2 p.es.length x.c2, .slice (some ⟨g, 0, none⟩) gs.length c] 71 (0, 0))
  r : RowG W g gs
  i : PIn w p x
  B : Below w.heap.size w W
  hb : w.heap.size ≤ b
  hg : w.heap.size ≤ g
  m : gs.length ≤ c
theorem RowG.below {W W' : World} {g : Nat} {gs : List G} (h : RowG W g gs) (hb : Below W.heap.size W W') : RowG W' g gs := by
  obtain ⟨s, h⟩ := h
  exact ⟨s, keep_blk hb h⟩
theorem RowG.lt {W : World} {g : Nat} {gs : List G} (h : RowG W g gs) : g < W.heap.size := by
  obtain ⟨s, h⟩ := h
  exact lt_blk h
theorem RefAt.pin {w W : World} {b : Nat} {p : Pol} {x : PAt} {g c : Nat} {gs : List G} (h : RefAt w W b p x g c gs) : PIn W p x := h.i.below h.B
theorem Only.step_new {b i g : Nat} {W W1 : World} {v : Value} (h : Only b W W1) (hg : W.heap.size ≤ g) : Only b W (W1.setCell ⟨g, i, none⟩ v) := ⟨fun k hk hn => by rw [Below.heap_setCell W1 ⟨g, i, none⟩ v k (by simp only; omega)]; exact h.blk k hk hn, fun n h1 h2 => (h.bel n h1 h2).setCell (Nat.le_trans h2 hg) _⟩
theorem RowG.far {W : World} {g b i : Nat} {gs : List G} {v : Value} (h : RowG W g gs) (hne : g ≠ b) : RowG (W.setCell ⟨b, i, none⟩ v) g gs := by
  obtain ⟨s, h⟩ := h
  exact ⟨s, far_blk h hne v⟩
theorem RowG.free {W : World} {g : Nat} {gs : List G} (h : RowG W g gs) (k : Nat) : W.frozen? ⟨g, k, none⟩ = false := by
  obtain ⟨s, h⟩ := h
  exact free_blk h k
theorem RefAt.below {w W W' : World} {b : Nat} {p : Pol} {x : PAt} {g c : Nat} {gs : List G} (h : RefAt w W b p x g c gs) (hb : Below W.heap.size W W') : RefAt w W' b p x g c gs := ⟨keep_blk hb h.d, h.r.below hb, h.i, below_step h.B hb, h.hb, h.hg, h.m⟩
theorem RefAt.drew {w W : World} {b : Nat} {p : Pol} {x : PAt} {g c : Nat} {gs : List G} (h : RefAt w W b p x g c gs) : RefAt w W.drew b p x g c gs := h.below (below_drew1 (Below.refl _ _))
theorem RefAt.guest {w W : World} {b : Nat} {p : Pol} {x : PAt} {g c : Nat} {gs : List G} (h : RefAt w W b p x g c gs) (k : Nat) (hk : k < gs.length) :
    W.cell? ⟨g, k * 5, none⟩ = some (.int .i64 (gs.getD k g0).conn) ∧ W.cell? ⟨g, k * 5 + 1, none⟩ = some (.bool (gs.getD k g0).opn) ∧ W.cell? ⟨g, k * 5 + 2, none⟩ = some (.int .i64 (gs.getD k g0).silent) ∧ W.cell? ⟨g, k * 5 + 3, none⟩ = some (.int .i64 (gs.getD k g0).wrong) ∧ W.cell? ⟨g, k * 5 + 4, none⟩ = some (.int .i64 (gs.getD k g0).locked) := by
  have e : ∀ j, j < 5 → W.cell? ⟨g, k * 5 + j, none⟩ = (gs.getD k g0).cells[j]? := fun j hj => h.r.cell k j hk hj
  exact ⟨by simpa [G.cells] using e 0 (by omega), by simpa [G.cells] using e 1 (by omega), by simpa [G.cells] using e 2 (by omega), by simpa [G.cells] using e 3 (by omega), by simpa [G.cells] using e 4 (by omega)⟩
set_option maxHeartbeats 4000000 in
theorem rno_in {w W : World} {b : Nat} {p : Pol} {x : PAt} {g c : Nat} {gs : List G} (h : RefAt w W b p x g c gs) (k : Nat) (hk : k < gs.length) (hn : gs.length ≤ 8) : Calls Try.prog 46 #[.pointer (some ⟨b, 0, none⟩), .int .i64 k] W fun e w' => e = .returned (.bool false) ∧ Below W.heap.size W w' := by
  obtain ⟨x0, x1, x2, x3⟩ := boxed4 h.d
  have H := Lib.hid h
  clear h
  have q1 : ¬ gs.length ≤ k := by omega
  have q2 : ¬ ((k : Int) < 0) := by omega
  go_enter Try.func46, Try.ntmps46
  go_wp2
  go_ret
  exact ⟨rfl, Below.refl _ _⟩
set_option maxHeartbeats 4000000 in
theorem rno_out {w W : World} {b : Nat} {p : Pol} {x : PAt} {g c : Nat} {gs : List G} (h : RefAt w W b p x g c gs) (who : Int) (hk : who < 0 ∨ (gs.length : Int) ≤ who) (hn : gs.length ≤ 8) : Calls Try.prog 46 #[.pointer (some ⟨b, 0, none⟩), .int .i64 who] W fun e w' => e = .returned (.bool true) ∧ Below W.heap.size W w' := by
  obtain ⟨x0, x1, x2, x3⟩ := boxed4 h.d
  have H := Lib.hid h
  clear h
  by_cases h1 : who < 0
  · clear hk
    go_enter Try.func46, Try.ntmps46
    go_wp2
    go_ret
    exact ⟨rfl, Below.refl _ _⟩
  · have h2 : (gs.length : Int) ≤ who := by omega
    clear hk
    go_enter Try.func46, Try.ntmps46
    go_wp2
    go_ret
    exact ⟨rfl, Below.refl _ _⟩
/-- what the reference's calls leave -/
def RefDid (w : World) (b : Nat) (p : Pol) (x : PAt) (W : World) (gs : List G) (w' : World) : Prop := ∃ g c, RefAt w w' b p x g c gs ∧ Only b W w'
set_option maxHeartbeats 8000000 in
theorem rset_c {w W : World} {b : Nat} {p : Pol} {x : PAt} {g c : Nat} {gs : List G} (h : RefAt w W b p x g c gs) (k : Nat) (hk : k < gs.length) (hn : gs.length ≤ 8) (a : G) : Calls Try.prog 47 #[.pointer (some ⟨b, 0, none⟩), .int .i64 k, .agg #[.int .i64 a.conn, .bool a.opn, .int .i64 a.silent, .int .i64 a.wrong, .int .i64 a.locked]] W fun e w' => e = .returned (.tuple #[]) ∧ RefDid w b p x W (gs.set k a) w' := by
  obtain ⟨x0, x1, x2, x3⟩ := boxed4 h.d
  have H := Lib.hid h
  clear h
  have z3 := free_blk H.out.d 3
  have zb := lt_blk H.out.d
  go_enter Try.func47, Try.ntmps47
  go_wp2_with ((with_reducible refine gate_builtin (b := .append) (xs := #[.tmp 7, .tmp 11]) rfl ?_); at_builtin; refine Hid.out ?_)
  refine Lib.hid ?_
  refine Kd.R_append_rows k73 (w0 := ?aW) (W.heap.size + 1) rfl (.tmp 7) (.tmp 11) 69 73 (.agg #[.int .i64 0, .bool false, .int .i64 0, .int .i64 0, .int .i64 0]) 40 rfl Try.underlying69 (by kernel_rfl) rfl (by decide) (by omega) (.slice (some ⟨W.heap.size + 1, 0, none⟩) 0 0) [] gs (some ⟨g, 0, none⟩) gs.length c (fun _ => True) (fun _ => False) rfl rfl ?aO (rows_of ((H.out.below (below_alloc (below_alloc (Below.refl _ _) _) _)).r.reads (by omega))) (fun y cs hy => by rw [k73_open hy]; exact k73_mkM _ _ _ _) (fun _ hk => hk.elim) (fun _ _ => trivial) ?aB ?aS ?aL ?_
  case aO => simpa using R_empty k73 73 (W.alloc (.cells #[.int .i64 a.conn, .bool a.opn, .int .i64 a.silent, .int .i64 a.wrong, .int .i64 a.locked] 73))
  case aB => exact Below.refl _ _
  case aS => simp
  case aL => simp; omega
  intro v1 w1 hR hB hG hat
  obtain ⟨g2, c2, rfl, hg2, hc2, hrow⟩ := row_of hR (by simpa using (show 0 < gs.length by omega))
  have ON1 : Hid (Only b W w1) := Lib.hid ((Only.of (below_alloc (below_alloc (Below.refl W.heap.size W) _) _)).grown hG (fun m hm => by simp [Value.ownBlock] at hm; omega))
  have hd1 := blk_grown (H.out.below (below_alloc (below_alloc (Below.refl W.heap.size W) _) _)).d hG (by simp [Value.ownBlock]; omega)
  have hx1 := blk_grown (old_blk (new_blk W (.cells #[.int .i64 a.conn, .bool a.opn, .int .i64 a.silent, .int .i64 a.wrong, .int .i64 a.locked] 73)) (.cells #[] 73)) hG (by simp [Value.ownBlock])
  have hne : g2 ≠ b := by omega
  obtain ⟨m0, m1, m2, m3, m4⟩ := boxed5 hx1
  obtain ⟨n0, n1, n2, n3⟩ := boxed4 hd1
  have y3 := free_blk hd1 3
  have f0 := hrow.free (k * 5)
  have f1 := hrow.free (k * 5 + 1)
  have f2 := hrow.free (k * 5 + 2)
  have f3 := hrow.free (k * 5 + 3)
  have f4 := hrow.free (k * 5 + 4)
  have C : ∀ j, j < 5 → w1.cell? ⟨g2, k * 5 + j, none⟩ = (gs.getD k g0).cells[j]? := fun j hj => by have := hrow.cell k j (by simpa using hk) hj; simpa using this
  have C0 : w1.cell? ⟨g2, k * 5, none⟩ = some (.int .i64 (gs.getD k g0).conn) := by simpa [G.cells] using C 0 (by omega)
  have C1 : w1.cell? ⟨g2, k * 5 + 1, none⟩ = some (.bool (gs.getD k g0).opn) := by simpa [G.cells] using C 1 (by omega)
  have C2 : w1.cell? ⟨g2, k * 5 + 2, none⟩ = some (.int .i64 (gs.getD k g0).silent) := by simpa [G.cells] using C 2 (by omega)
  have C3 : w1.cell? ⟨g2, k * 5 + 3, none⟩ = some (.int .i64 (gs.getD k g0).wrong) := by simpa [G.cells] using C 3 (by omega)
  have C4 : w1.cell? ⟨g2, k * 5 + 4, none⟩ = some (.int .i64 (gs.getD k g0).locked) := by simpa [G.cells] using C 4 (by omega)
  clear C
  have zg := hrow.lt
  have zb1 := lt_blk hd1
  have zx1 := lt_blk hx1
  rw [List.nil_append] at hrow hc2 ⊢
  have HROW := Lib.hid hrow
  have HD1 := Lib.hid hd1
  have HG2 := Lib.hid hg2
  have HNE := Lib.hid hne
  clear hrow hd1 hx1 hG hat hR
  have hne2 : ¬ b = g2 := fun e => hne e.symm
  go_wp2
  go_end0
  refine ⟨rfl, g2, c2, ⟨?_, ?_, H.out.i, ?_, H.out.hb, ?_, ?_⟩, ?_⟩
  · rw [List.length_set]
    have := set_blk (k := 3) (far_blk (p := ⟨g2, k * 5 + 4, none⟩) (far_blk (p := ⟨g2, k * 5 + 3, none⟩) (far_blk (p := ⟨g2, k * 5 + 2, none⟩) (far_blk (p := ⟨g2, k * 5 + 1, none⟩) (far_blk (p := ⟨g2, k * 5, none⟩) HD1.out hne2 (.int .i64 a.conn)) hne2 (.bool a.opn)) hne2 (.int .i64 a.silent)) hne2 (.int .i64 a.wrong)) hne2 (.int .i64 a.locked)) (.slice (some ⟨g2, 0, none⟩) gs.length c2)
    exact this
  · exact (HROW.out.put5 k hk a).far HNE.out
  · exact H.out.B.trans (((((((ON1.out.step_new (by have := HG2.out; omega)).step_new (by have := HG2.out; omega)).step_new (by have := HG2.out; omega)).step_new (by have := HG2.out; omega)).step_new (by have := HG2.out; omega)).step Only.put).bel _ H.out.hb H.out.B.size)
  · have := HG2.out
    have := H.out.B.size
    omega
  · rw [List.length_set]; exact hc2
  · exact ((((((ON1.out.step_new (by have := HG2.out; omega)).step_new (by have := HG2.out; omega)).step_new (by have := HG2.out; omega)).step_new (by have := HG2.out; omega)).step_new (by have := HG2.out; omega)).step Only.put)
end Go.Proofs.Ytkfjolhlnhbgjaa.D
namespace Go.Proofs.Ytkfjolhlnhbgjaa.D
open Go.RowKit Go.Proofs.Ytkfjolhlnhbgjaa.P Go.Proofs.YtkfjolhlnhbgjaaBase Go.Proofs.YtkfjolhlnhbgjaaW.PrintWords Go.Proofs.YtkfjolhlnhbgjaaW.PrintLast Go.Proofs.Ytkfjolhlnhbgjaa.Q Go.Proofs.Ytkfjolhlnhbgjaa.L
set_option linter.unusedVariables false
set_option linter.unusedSimpArgs false

theorem refdid_step {w W W1 w' : World} {b : Nat} {p : Pol} {x : PAt} {gs : List G} (hb : Below W.heap.size W W1) (h : RefDid w b p x W1 gs w') : RefDid w b p x W gs w' := by
  obtain ⟨g, c, h1, h2⟩ := h
  exact ⟨g, c, h1, (Only.of hb).step h2⟩
theorem refdid_same {w W W1 : World} {b : Nat} {p : Pol} {x : PAt} {g c : Nat} {gs : List G} (hb : Below W.heap.size W W1) (h : RefAt w W1 b p x g c gs) : RefDid w b p x W gs W1 := ⟨g, c, h, Only.of hb⟩
set_option maxHeartbeats 8000000 in
theorem rknock_in {w W : World} {b : Nat} {p : Pol} {x : PAt} {g c : Nat} {gs : List G} (h : RefAt w W b p x g c gs) (k : Nat) (hk : k < gs.length) (hn : gs.length ≤ 8) (conn : Int) : Calls Try.prog 27 #[.pointer (some ⟨b, 0, none⟩), .int .i64 k, .int .i64 conn] W fun e w' => e = .returned (.tuple #[.bool (knockF (gs.getD k g0) conn).1, .int .i64 (knockF (gs.getD k g0) conn).2]) ∧ Below W.heap.size W w' := by
  obtain ⟨q, hg⟩ : ∃ q, Hid (gs.getD k g0 = q) := ⟨_, Lib.hid rfl⟩
  have hself : gs.set k q = gs := by rw [← hg.out]; exact set_self gs k hk
  have HS := Lib.hid hself
  clear hself
  rw [hg.out]
  have H := Lib.hid h
  clear h
  by_cases h1 : conn < 1
  · rw [show knockF q conn = (false, 130) by unfold knockF; rw [if_pos (by omega)]]
    go_enter Try.func27, Try.ntmps27
    go_wp2_with (first
      | (go_at_call 46; (with_reducible refine (rno_in H.out k hk hn).mono ?_); rintro e w2 ⟨rfl, hbb⟩; have H2 := Lib.hid (H.out.below hbb); have C := H2.out.guest k hk; rw [hg.out] at C; obtain ⟨c0, c1, c2, c3, c4⟩ := C; obtain ⟨x0, x1, x2, x3⟩ := boxed4 H2.out.d; have zb := lt_blk H2.out.d; have zg := H2.out.r.lt))
    go_ret2
    exact ⟨rfl, below_step hbb (below_alloc (Below.refl _ _) _)⟩
  by_cases h2 : conn > 1099511627776
  · rw [show knockF q conn = (false, 130) by unfold knockF; rw [if_pos (by omega)]]
    go_enter Try.func27, Try.ntmps27
    go_wp2_with (first
      | (go_at_call 46; (with_reducible refine (rno_in H.out k hk hn).mono ?_); rintro e w2 ⟨rfl, hbb⟩; have H2 := Lib.hid (H.out.below hbb); have C := H2.out.guest k hk; rw [hg.out] at C; obtain ⟨c0, c1, c2, c3, c4⟩ := C; obtain ⟨x0, x1, x2, x3⟩ := boxed4 H2.out.d; have zb := lt_blk H2.out.d; have zg := H2.out.r.lt))
    go_ret2
    exact ⟨rfl, below_step hbb (below_alloc (Below.refl _ _) _)⟩
  by_cases h3 : conn < q.conn
  · rw [show knockF q conn = (false, 130) by unfold knockF; rw [if_pos (by omega)]]
    go_enter Try.func27, Try.ntmps27
    go_wp2_with (first
      | (go_at_call 46; (with_reducible refine (rno_in H.out k hk hn).mono ?_); rintro e w2 ⟨rfl, hbb⟩; have H2 := Lib.hid (H.out.below hbb); have C := H2.out.guest k hk; rw [hg.out] at C; obtain ⟨c0, c1, c2, c3, c4⟩ := C; obtain ⟨x0, x1, x2, x3⟩ := boxed4 H2.out.d; have zb := lt_blk H2.out.d; have zg := H2.out.r.lt))
    go_ret2
    exact ⟨rfl, below_step hbb (below_alloc (Below.refl _ _) _)⟩
  by_cases h4 : conn = q.conn
  · have E0 : ((conn : Int) == q.conn) = true := by simpa using h4
    rw [show knockF q conn = (false, 0) by unfold knockF; rw [if_neg (by omega), if_pos h4]]
    clear h4
    go_enter Try.func27, Try.ntmps27
    go_wp2_with (first
      | (go_at_call 46; (with_reducible refine (rno_in H.out k hk hn).mono ?_); rintro e w2 ⟨rfl, hbb⟩; have H2 := Lib.hid (H.out.below hbb); have C := H2.out.guest k hk; rw [hg.out] at C; obtain ⟨c0, c1, c2, c3, c4⟩ := C; obtain ⟨x0, x1, x2, x3⟩ := boxed4 H2.out.d; have zb := lt_blk H2.out.d; have zg := H2.out.r.lt))
    go_ret2
    exact ⟨rfl, below_step hbb (below_alloc (Below.refl _ _) _)⟩
  by_cases h5 : q.locked > 0
  · rw [show knockF q conn = (false, 170) by unfold knockF; rw [if_neg (by omega), if_neg h4, if_pos h5]]
    go_enter Try.func27, Try.ntmps27
    go_wp2_with (first
      | (go_at_call 46; (with_reducible refine (rno_in H.out k hk hn).mono ?_); rintro e w2 ⟨rfl, hbb⟩; have H2 := Lib.hid (H.out.below hbb); have C := H2.out.guest k hk; rw [hg.out] at C; obtain ⟨c0, c1, c2, c3, c4⟩ := C; obtain ⟨x0, x1, x2, x3⟩ := boxed4 H2.out.d; have zb := lt_blk H2.out.d; have zg := H2.out.r.lt))
    go_ret2
    exact ⟨rfl, below_step hbb (below_alloc (Below.refl _ _) _)⟩
  · rw [show knockF q conn = (true, 0) by unfold knockF; rw [if_neg (by omega), if_neg h4, if_neg h5]]
    go_enter Try.func27, Try.ntmps27
    go_wp2_with (first
      | (go_at_call 46; (with_reducible refine (rno_in H.out k hk hn).mono ?_); rintro e w2 ⟨rfl, hbb⟩; have H2 := Lib.hid (H.out.below hbb); have C := H2.out.guest k hk; rw [hg.out] at C; obtain ⟨c0, c1, c2, c3, c4⟩ := C; obtain ⟨x0, x1, x2, x3⟩ := boxed4 H2.out.d; have zb := lt_blk H2.out.d; have zg := H2.out.r.lt))
    go_ret2
    exact ⟨rfl, below_step hbb (below_alloc (Below.refl _ _) _)⟩
set_option maxHeartbeats 8000000 in
theorem rwrong_in {w W : World} {b : Nat} {p : Pol} {x : PAt} {g c : Nat} {gs : List G} (h : RefAt w W b p x g c gs) (k : Nat) (hk : k < gs.length) (hn : gs.length ≤ 8) (hw : 0 ≤ (gs.getD k g0).wrong ∧ (gs.getD k g0).wrong ≤ 2) : Calls Try.prog 28 #[.pointer (some ⟨b, 0, none⟩), .int .i64 k] W fun e w' => e = .returned (.int .i64 (wrongF (gs.getD k g0)).2) ∧ RefDid w b p x W (gs.set k (wrongF (gs.getD k g0)).1) w' := by
  obtain ⟨q, hg⟩ : ∃ q, Hid (gs.getD k g0 = q) := ⟨_, Lib.hid rfl⟩
  have hself : gs.set k q = gs := by rw [← hg.out]; exact set_self gs k hk
  have HS := Lib.hid hself
  clear hself
  rw [hg.out] at hw ⊢
  have H := Lib.hid h
  clear h
  by_cases h1 : q.locked > 0
  · rw [show wrongF q = (q, 170) by unfold wrongF; rw [if_pos h1]]
    go_enter Try.func28, Try.ntmps28
    go_wp2_with (first
      | (go_at_call 46; (with_reducible refine (rno_in H.out k hk hn).mono ?_); rintro e w2 ⟨rfl, hbb⟩; have H2 := Lib.hid (H.out.below hbb); have C := H2.out.guest k hk; rw [hg.out] at C; obtain ⟨c0, c1, c2, c3, c4⟩ := C; obtain ⟨x0, x1, x2, x3⟩ := boxed4 H2.out.d; have zb := lt_blk H2.out.d; have zg := H2.out.r.lt))
    go_ret
    exact ⟨rfl, by rw [HS.out]; exact refdid_same (below_step hbb (below_alloc (Below.refl _ _) _)) (H2.out.below (below_alloc (Below.refl _ _) _))⟩
  by_cases h2 : q.wrong + 1 ≥ 3
  · rw [show wrongF q = ({ q with wrong := 0, locked := 20 }, 0) by unfold wrongF; rw [if_neg h1, if_pos h2]]
    have hw3 : q.wrong = 2 := by omega
    go_enter Try.func28, Try.ntmps28
    go_wp2_with (first
      | (go_at_call 46; (with_reducible refine (rno_in H.out k hk hn).mono ?_); rintro e w2 ⟨rfl, hbb⟩; have H2 := Lib.hid (H.out.below hbb); have C := H2.out.guest k hk; rw [hg.out] at C; obtain ⟨c0, c1, c2, c3, c4⟩ := C; obtain ⟨x0, x1, x2, x3⟩ := boxed4 H2.out.d; have zb := lt_blk H2.out.d; have zg := H2.out.r.lt)
      | (go_at_call 47; (with_reducible refine (rset_c (H2.out.below (below_alloc (Below.refl _ _) _)) k hk hn ⟨q.conn, q.opn, q.silent, 0, 20⟩).mono ?_); rintro e w3 ⟨rfl, hdid⟩))
    go_ret
    exact ⟨rfl, refdid_step (below_step hbb (below_alloc (Below.refl _ _) _)) hdid⟩
  · rw [show wrongF q = ({ q with wrong := q.wrong + 1 }, 0) by unfold wrongF; rw [if_neg h1, if_neg h2]]
    have E25 : (q.wrong + 1 == 3) = false := by simp; omega
    go_enter Try.func28, Try.ntmps28
    go_wp2_with (first
      | (go_at_call 46; (with_reducible refine (rno_in H.out k hk hn).mono ?_); rintro e w2 ⟨rfl, hbb⟩; have H2 := Lib.hid (H.out.below hbb); have C := H2.out.guest k hk; rw [hg.out] at C; obtain ⟨c0, c1, c2, c3, c4⟩ := C; obtain ⟨x0, x1, x2, x3⟩ := boxed4 H2.out.d; have zb := lt_blk H2.out.d; have zg := H2.out.r.lt)
      | (go_at_call 47; (with_reducible refine (rset_c (H2.out.below (below_alloc (Below.refl _ _) _)) k hk hn ⟨q.conn, q.opn, q.silent, q.wrong + 1, q.locked⟩).mono ?_); rintro e w3 ⟨rfl, hdid⟩))
    go_ret
    exact ⟨rfl, refdid_step (below_step hbb (below_alloc (Below.refl _ _) _)) hdid⟩
set_option maxHeartbeats 8000000 in
theorem rheard_in {w W : World} {b : Nat} {p : Pol} {x : PAt} {g c : Nat} {gs : List G} (h : RefAt w W b p x g c gs) (k : Nat) (hk : k < gs.length) (hn : gs.length ≤ 8) : Calls Try.prog 30 #[.pointer (some ⟨b, 0, none⟩), .int .i64 k] W fun e w' => e = .returned (.int .i64 (heardF (gs.getD k g0)).2) ∧ RefDid w b p x W (gs.set k (heardF (gs.getD k g0)).1) w' := by
  obtain ⟨q, hg⟩ : ∃ q, Hid (gs.getD k g0 = q) := ⟨_, Lib.hid rfl⟩
  have hself : gs.set k q = gs := by rw [← hg.out]; exact set_self gs k hk
  have HS := Lib.hid hself
  clear hself
  rw [hg.out]
  have H := Lib.hid h
  clear h
  cases ho : q.opn
  · rw [show heardF q = (q, 172) by unfold heardF; rw [if_pos ho]]
    go_enter Try.func30, Try.ntmps30
    go_wp2_with (first
      | (go_at_call 46; (with_reducible refine (rno_in H.out k hk hn).mono ?_); rintro e w2 ⟨rfl, hbb⟩; have H2 := Lib.hid (H.out.below hbb); have C := H2.out.guest k hk; rw [hg.out] at C; obtain ⟨c0, c1, c2, c3, c4⟩ := C; obtain ⟨x0, x1, x2, x3⟩ := boxed4 H2.out.d; have zb := lt_blk H2.out.d; have zg := H2.out.r.lt))
    go_ret
    exact ⟨rfl, by rw [HS.out]; exact refdid_same (below_step hbb (below_alloc (Below.refl _ _) _)) (H2.out.below (below_alloc (Below.refl _ _) _))⟩
  · rw [show heardF q = ({ q with silent := 0 }, 0) by unfold heardF; rw [if_neg (by simp [ho])]]
    go_enter Try.func30, Try.ntmps30
    go_wp2_with (first
      | (go_at_call 46; (with_reducible refine (rno_in H.out k hk hn).mono ?_); rintro e w2 ⟨rfl, hbb⟩; have H2 := Lib.hid (H.out.below hbb); have C := H2.out.guest k hk; rw [hg.out] at C; obtain ⟨c0, c1, c2, c3, c4⟩ := C; obtain ⟨x0, x1, x2, x3⟩ := boxed4 H2.out.d; have zb := lt_blk H2.out.d; have zg := H2.out.r.lt)
      | (go_at_call 47; (with_reducible refine (rset_c (H2.out.below (below_alloc (Below.refl _ _) _)) k hk hn ⟨q.conn, true, 0, q.wrong, q.locked⟩).mono ?_); rintro e w3 ⟨rfl, hdid⟩))
    go_ret
    exact ⟨rfl, by have := refdid_step (below_step hbb (below_alloc (Below.refl _ _) _)) hdid; simpa [ho] using this⟩
end Go.Proofs.Ytkfjolhlnhbgjaa.D
namespace Go.Proofs.Ytkfjolhlnhbgjaa.D
open Go.RowKit Go.Proofs.Ytkfjolhlnhbgjaa.P Go.Proofs.YtkfjolhlnhbgjaaBase Go.Proofs.YtkfjolhlnhbgjaaW.PrintWords Go.Proofs.YtkfjolhlnhbgjaaW.PrintLast Go.Proofs.Ytkfjolhlnhbgjaa.Q Go.Proofs.Ytkfjolhlnhbgjaa.L
set_option linter.unusedVariables false
set_option linter.unusedSimpArgs false

theorem RefAt.far {w W : World} {b : Nat} {p : Pol} {x : PAt} {g c : Nat} {gs : List G} (h : RefAt w W b p x g c gs) {m i : Nat} {v : Value} (hb : b ≠ m) (hg : g ≠ m) (hw : w.heap.size ≤ m) : RefAt w (W.setCell ⟨m, i, none⟩ v) b p x g c gs := ⟨far_blk h.d hb v, h.r.far hg, h.i, h.B.setCell hw _, h.hb, h.hg, h.m⟩
set_option maxHeartbeats 4000000 in
theorem rseats_c {w W : World} {b : Nat} {p : Pol} {x : PAt} {g c : Nat} {gs : List G} (h : RefAt w W b p x g c gs) (hn : gs.length ≤ 8) (he : p.es.length = gs.length) (label : Int) :
    Calls Try.prog 36 #[.pointer (some ⟨b, 0, none⟩), .int .i64 label] W fun e w' => e = .returned (.int .i64 (seatsN p gs label gs.length)) ∧ Below W.heap.size W w' := by
  obtain ⟨X0, X0c, X1, X1c, X2, X2c⟩ := x
  obtain ⟨x0, x1, x2, x3⟩ := boxed4 h.d
  have H := Lib.hid h
  have HE := Lib.hid he
  clear h he
  go_enter Try.func36, Try.ntmps36
  go_wp2
  go_loopw [5, 13] (fun s i wr => ∃ (k : Nat) (sn : Int), k ≤ gs.length ∧ s = .int .i64 sn ∧ i = .int .i64 k ∧ Hid (seatsN p gs label k = sn) ∧ Below W.heap.size W wr) (fun _ i _ => gs.length - (intOf i).toNat)
  case atStart => exact ⟨0, 0, Nat.zero_le _, rfl, rfl, Lib.hid rfl, Below.refl _ _⟩
  case round =>
    obtain ⟨k, sn, hk, rfl, rfl, hsn, hB⟩ := hrel
    have D0 := Lib.hid (H.out.below hB)
    obtain ⟨x0, x1, x2, x3⟩ := boxed4 D0.out.d
    have hsl := seatsN_le p gs label k
    rw [hsn.out] at hsl
    by_cases hlt : k < gs.length
    · have hlt2 : k < p.es.length := by have := HE.out; omega
      obtain ⟨c0, c1, c2, c3, c4⟩ := D0.out.guest k hlt
      obtain ⟨ad, rfl, e0, e1, e2⟩ := at48 D0.out.pin.h2 (Below.refl _ _) k hlt2
      obtain ⟨q, hg⟩ : ∃ q, Hid (gs.getD k g0 = q) := ⟨_, Lib.hid rfl⟩
      obtain ⟨en, hen⟩ : ∃ e, Hid (p.es.getD k z48 = e) := ⟨_, Lib.hid rfl⟩
      rw [hg.out] at c0 c1 c2 c3 c4
      rw [hen.out] at e0 e1 e2
      have zb := lt_blk D0.out.d
      have zl := D0.out.r.lt
      have ze := World.block_lt_of_cell? _ _ e0
      have hst : seatsN p gs label (k + 1) = sn + (if (q.opn && (en.f0 == label)) = true then 1 else 0) := by simp only [seatsN, sits, hg.out, hen.out, hsn.out]
      have HST := Lib.hid hst
      clear hst
      cases ho : q.opn
      · go_wp2
        go_roundw
        case rel => exact ⟨k + 1, _, by omega, rfl, by go_num, Lib.hid (by rw [HST.out, ho]; simp), below_alloc hB _⟩
        case measure => simp [intOf]; omega
      · cases hl : (en.f0 == label)
        all_goals
          go_wp2
          go_roundw
          case rel => exact ⟨k + 1, _, by omega, by first | rfl | go_num, by go_num, Lib.hid (by rw [HST.out, ho, hl]; simp), below_alloc hB _⟩
          case measure => simp [intOf]; omega
    · have hkl : k = gs.length := by omega
      subst hkl
      go_wp2
      go_ret
      exact ⟨by rw [hsn.out]; rfl, hB⟩
theorem rseats_n {w W : World} {b : Nat} {p : Pol} {x : PAt} {g c : Nat} {gs : List G} (h : RefAt w W b p x g c gs) (hn : gs.length ≤ 8) (he : p.es.length = gs.length) (label : Int) {n : Int} (hs : Hid (seatsN p gs label gs.length = n)) :
    Calls Try.prog 36 #[.pointer (some ⟨b, 0, none⟩), .int .i64 label] W fun e w' => e = .returned (.int .i64 n) ∧ Below W.heap.size W w' := by
  have := rseats_c h hn he label
  rwa [hs.out] at this
set_option maxHeartbeats 8000000 in
theorem rbegin_in {w W : World} {b : Nat} {p : Pol} {x : PAt} {g c : Nat} {gs : List G} (h : RefAt w W b p x g c gs) (k : Nat) (hk : k < gs.length) (hn : gs.length ≤ 8) (conn : Int) : Calls Try.prog 34 #[.pointer (some ⟨b, 0, none⟩), .int .i64 k, .int .i64 conn] W fun e w' => e = .returned (.int .i64 (beginF conn (gs.getD k g0)).2) ∧ RefDid w b p x W (gs.set k (beginF conn (gs.getD k g0)).1) w' := by
  obtain ⟨q, hg⟩ : ∃ q, Hid (gs.getD k g0 = q) := ⟨_, Lib.hid rfl⟩
  have hself : gs.set k q = gs := by rw [← hg.out]; exact set_self gs k hk
  have HS := Lib.hid hself
  clear hself
  rw [hg.out]
  have hkn : Calls Try.prog 27 #[.pointer (some ⟨b, 0, none⟩), .int .i64 k, .int .i64 conn] W fun e w' => e = .returned (.tuple #[.bool (knockF q conn).1, .int .i64 (knockF q conn).2]) ∧ Below W.heap.size W w' := hg.out ▸ rknock_in h k hk hn conn
  unfold beginF
  obtain ⟨fr, hfr⟩ : ∃ fr, (knockF q conn).1 = fr := ⟨_, rfl⟩
  obtain ⟨er, her⟩ : ∃ er, (knockF q conn).2 = er := ⟨_, rfl⟩
  rw [hfr, her] at hkn ⊢
  have HK := Lib.hid hkn
  have H := Lib.hid h
  clear h hkn hfr her
  by_cases h1 : er = 0
  · subst h1
    rw [if_neg (by simp)]
    cases fr
    · rw [if_pos rfl]
      go_enter Try.func34, Try.ntmps34
      go_wp2_with (first
        | (go_at_call 27; (with_reducible refine HK.out.mono ?_); rintro e w2 ⟨rfl, hbb⟩; have H2 := Lib.hid (H.out.below hbb)))
      go_ret
      exact ⟨rfl, by rw [HS.out]; exact refdid_same hbb H2.out⟩
    · rw [if_neg (by simp)]
      go_enter Try.func34, Try.ntmps34
      go_wp2_with (first
        | (go_at_call 27; (with_reducible refine HK.out.mono ?_); rintro e w2 ⟨rfl, hbb⟩; have H2 := Lib.hid (H.out.below hbb))
        | (go_at_call 47; (with_reducible refine (rset_c H2.out k hk hn ⟨conn, false, 0, 0, 0⟩).mono ?_); rintro e w3 ⟨rfl, hdid⟩))
      go_ret
      exact ⟨rfl, refdid_step hbb hdid⟩
  · have E0 : (er == 0) = false := by simpa using h1
    rw [if_pos h1]
    clear h1
    go_enter Try.func34, Try.ntmps34
    go_wp2_with (first
      | (go_at_call 27; (with_reducible refine HK.out.mono ?_); rintro e w2 ⟨rfl, hbb⟩; have H2 := Lib.hid (H.out.below hbb)))
    go_ret
    exact ⟨rfl, by rw [HS.out]; exact refdid_same hbb H2.out⟩
set_option maxHeartbeats 8000000 in
theorem rshut_in {w W : World} {b : Nat} {p : Pol} {x : PAt} {g c : Nat} {gs : List G} (h : RefAt w W b p x g c gs) (k : Nat) (hk : k < gs.length) (hn : gs.length ≤ 8) : Calls Try.prog 31 #[.pointer (some ⟨b, 0, none⟩), .int .i64 k] W fun e w' => e = .returned (.int .i64 (shutF (gs.getD k g0)).2) ∧ RefDid w b p x W (gs.set k (shutF (gs.getD k g0)).1) w' := by
  have hgk : ((gs.set k (heardF (gs.getD k g0)).1).getD k g0) = (heardF (gs.getD k g0)).1 := by rw [getD_set gs k k _ hk, if_pos rfl]
  have HH := Lib.hid (rheard_in h k hk hn)
  have HG1 := Lib.hid hgk
  clear hgk
  obtain ⟨q, hg⟩ : ∃ q, Hid (gs.getD k g0 = q) := ⟨_, Lib.hid rfl⟩
  have hself : gs.set k q = gs := by rw [← hg.out]; exact set_self gs k hk
  have HS := Lib.hid hself
  clear hself
  rw [hg.out] at HH HG1 ⊢
  clear h
  cases ho : q.opn
  · rw [show shutF q = (q, 172) by unfold shutF; rw [if_pos ho]]
    rw [show heardF q = (q, 172) by unfold heardF; rw [if_pos ho]] at HH HG1
    go_enter Try.func31, Try.ntmps31
    go_wp2_with (first
      | (go_at_call 30; (with_reducible refine HH.out.mono ?_); rintro e w2 ⟨rfl, hdid⟩))
    go_ret
    exact ⟨rfl, hdid⟩
  · rw [show shutF q = ({ q with opn := false, silent := 0 }, 0) by unfold shutF; rw [if_neg (by simp [ho])]]
    rw [show heardF q = ({ q with silent := 0 }, 0) by unfold heardF; rw [if_neg (by simp [ho])]] at HH HG1
    go_enter Try.func31, Try.ntmps31
    go_wp2_with (first
      | (go_at_call 30; (with_reducible refine HH.out.mono ?_); rintro e w2 ⟨rfl, g2, cc, hr2, ho2⟩; have H2 := Lib.hid hr2; have O2 := Lib.hid ho2; have C := H2.out.guest k (by rw [List.length_set]; exact hk); rw [HG1.out] at C; obtain ⟨c0, c1, c2, c3, c4⟩ := C; obtain ⟨x0, x1, x2, x3⟩ := boxed4 H2.out.d; rw [List.length_set] at x3; have zb := lt_blk H2.out.d; have zg := H2.out.r.lt)
      | (go_at_call 47; (with_reducible refine (rset_c (H2.out.below (below_alloc (Below.refl _ _) _)) k (by rw [List.length_set]; exact hk) (by rw [List.length_set]; exact hn) ⟨q.conn, false, 0, q.wrong, q.locked⟩).mono ?_); rintro e w3 ⟨rfl, hdid⟩))
    go_ret
    rw [List.set_set] at hdid
    obtain ⟨g3, c3, r3, o3⟩ := hdid
    exact ⟨rfl, g3, c3, r3, (O2.out.step (Only.of (below_alloc (Below.refl _ _) _))).step o3⟩
set_option maxHeartbeats 8000000 in
theorem ropen_in {w W : World} {b : Nat} {p : Pol} {x : PAt} {g c : Nat} {gs : List G} (h : RefAt w W b p x g c gs) (k : Nat) (hk : k < gs.length) (hn : gs.length ≤ 8) (he : p.es.length = gs.length) (hl : 0 ≤ (p.es.getD k z48).f0 ∧ (p.es.getD k z48).f0 < p.qs.length) : Calls Try.prog 29 #[.pointer (some ⟨b, 0, none⟩), .int .i64 k] W fun e w' => e = .returned (.int .i64 (openF p gs k (gs.getD k g0)).2) ∧ RefDid w b p x W (gs.set k (openF p gs k (gs.getD k g0)).1) w' := by
  obtain ⟨X0, X0c, X1, X1c, X2, X2c⟩ := x
  obtain ⟨q, hg⟩ : ∃ q, Hid (gs.getD k g0 = q) := ⟨_, Lib.hid rfl⟩
  have hself : gs.set k q = gs := by rw [← hg.out]; exact set_self gs k hk
  have HS := Lib.hid hself
  clear hself
  rw [hg.out]
  have H := Lib.hid h
  clear h
  have HE := Lib.hid he
  have hk2 : k < p.es.length := by omega
  obtain ⟨A2, rfl, e0, e1, e2⟩ := at48 H.out.pin.h2 (Below.refl _ _) k (by omega)
  clear he
  obtain ⟨l, hlab⟩ : ∃ l, Hid ((p.es.getD k z48).f0 = l) := ⟨_, Lib.hid rfl⟩
  unfold openF
  rw [hlab.out] at e0 hl ⊢
  obtain ⟨A1, rfl, f0, f1, f2⟩ := at_T41 H.out.pin.h1 l hl.1 hl.2
  obtain ⟨qt, hqt⟩ : ∃ q, Hid (p.qs.getD l.toNat z41 = q) := ⟨_, Lib.hid rfl⟩
  simp only [rd_T41] at f0 f1 f2
  rw [hqt.out] at f0 f1 f2 ⊢
  obtain ⟨n, hsn⟩ : ∃ n, Hid (seatsN p gs l gs.length = n) := ⟨_, Lib.hid rfl⟩
  rw [hsn.out]
  have hsl := seatsN_le p gs l gs.length
  rw [hsn.out] at hsl
  by_cases h1 : q.conn = 0
  · have E0 : (q.conn == 0) = true := by simpa using h1
    rw [if_pos h1]
    clear h1
    go_enter Try.func29, Try.ntmps29
    go_wp2_with (first
      | (go_at_call 46; (with_reducible refine (rno_in H.out k hk hn).mono ?_); rintro e w2 ⟨rfl, hbb⟩; have H2 := Lib.hid (H.out.below hbb); have C := H2.out.guest k hk; rw [hg.out] at C; obtain ⟨c0, c1, c2, c3, c4⟩ := C; obtain ⟨x0, x1, x2, x3⟩ := boxed4 H2.out.d; have zb := lt_blk H2.out.d; have zg := H2.out.r.lt))
    go_ret
    exact ⟨rfl, by rw [HS.out]; exact refdid_same (below_step hbb (below_alloc (Below.refl _ _) _)) (H2.out.below (below_alloc (Below.refl _ _) _))⟩
  have E0 : (q.conn == 0) = false := by simpa using h1
  rw [if_neg h1]
  clear h1
  cases ho : q.opn
  · rw [if_neg (by simp)]
    go_enter Try.func29, Try.ntmps29
    go_upto_region 9 with (first
      | (go_at_call 46; (with_reducible refine (rno_in H.out k hk hn).mono ?_); rintro e w2 ⟨rfl, hbb⟩; have H2 := Lib.hid (H.out.below hbb); have C := H2.out.guest k hk; rw [hg.out] at C; obtain ⟨c0, c1, c2, c3, c4⟩ := C; obtain ⟨x0, x1, x2, x3⟩ := boxed4 H2.out.d; have hq2 := keep_cell hbb f2; have hq0 := keep_cell hbb e0; have ze := World.block_lt_of_cell? _ _ hq0; have zf := World.block_lt_of_cell? _ _ hq2; have zb := lt_blk H2.out.d; have zg := H2.out.r.lt))
    have H3 := Lib.hid ((H2.out.below (below_alloc (Below.refl _ _) (.cells #[.int .i64 q.conn, .bool false, .int .i64 q.silent, .int .i64 q.wrong, .int .i64 q.locked] 73))).drew)
    have hbx : (w2.alloc (.cells #[.int .i64 q.conn, .bool false, .int .i64 q.silent, .int .i64 q.wrong, .int .i64 q.locked] 73)).drew.heap[w2.heap.size]? = some (.cells #[.int .i64 q.conn, .bool false, .int .i64 q.silent, .int .i64 q.wrong, .int .i64 q.locked] 73 (0, 0)) := drew_blk (new_blk w2 _)
    have y1 := (boxed4 H3.out.d).2.1
    have yq := keep_cell (below_drew1 (below_alloc (Below.refl w2.heap.size w2) (.cells #[.int .i64 q.conn, .bool false, .int .i64 q.silent, .int .i64 q.wrong, .int .i64 q.locked] 73))) hq2
    refine start_ (n := 13) (S := fun w' => w'.cell? ⟨b, 1, none⟩ = some (.slice (some A1) p.qs.length X1c) ∧ w'.cell? ⟨(A1.add (l.toNat * 3)).block, (A1.add (l.toNat * 3)).off + 2, none⟩ = some (.int .i64 qt.f2)) (ds := []) #[false, false, false, false, false, false, false, false, false, false, false, false, false] (by kernel_rfl) rfl rfl ⟨y1, yq⟩ (fun hHeld => ?_)
    refine pure_ (i := 0) (N := some 31) (v := ?_) (a' := ?_) #[true, false, false, false, false, false, false, false, false, false, false, false, false] rfl rfl (by kernel_rfl) (fun _ _ _ h => h) (Or.inl ⟨by rfl, ?_⟩) ?_ ?_
    rotate_left
    · intro w'
      go_simp
      with_reducible rfl
    rotate_left
    · simp only [Act.put, List.setIfInBounds_toArray, List.set_cons_zero, List.set_cons_succ, i64_w, i32_w]
      rfl
    refine pure_ (i := 1) (N := some 32) (v := ?_) (a' := ?_) #[true, true, false, false, false, false, false, false, false, false, false, false, false] rfl rfl (by kernel_rfl) (fun _ _ _ h => h) (Or.inl ⟨by rfl, ?_⟩) ?_ ?_
    rotate_left
    · intro w'
      go_simp
      with_reducible rfl
    rotate_left
    · simp only [Act.put, List.setIfInBounds_toArray, List.set_cons_zero, List.set_cons_succ, i64_w, i32_w]
      rfl
    refine pure_ (i := 3) (N := some 34) (v := ?_) (a' := ?_) #[true, true, false, true, false, false, false, false, false, false, false, false, false] rfl rfl (by kernel_rfl) (fun _ _ _ h => h) (Or.inl ⟨by rfl, ?_⟩) ?_ ?_
    rotate_left
    · intro w'
      go_simp
      with_reducible rfl
    rotate_left
    · simp only [Act.put, List.setIfInBounds_toArray, List.set_cons_zero, List.set_cons_succ, i64_w, i32_w]
      rfl
    refine pure_ (i := 4) (N := some 35) (v := ?_) (a' := ?_) #[true, true, false, true, true, false, false, false, false, false, false, false, false] rfl rfl (by kernel_rfl) (fun _ _ _ h => h) (Or.inl ⟨by rfl, ?_⟩) ?_ ?_
    rotate_left
    · intro w'
      go_simp
      with_reducible rfl
    rotate_left
    · simp only [Act.put, List.setIfInBounds_toArray, List.set_cons_zero, List.set_cons_succ, i64_w, i32_w]
      rfl
    refine pure_ (i := 5) (N := some 36) (v := ?_) (a' := ?_) #[true, true, false, true, true, true, false, false, false, false, false, false, false] rfl rfl (by kernel_rfl) (fun _ _ _ h => h) (Or.inl ⟨by rfl, ?_⟩) ?_ ?_
    rotate_left
    · intro w'
      go_simp
      with_reducible rfl
    rotate_left
    · simp only [Act.put, List.setIfInBounds_toArray, List.set_cons_zero, List.set_cons_succ, i64_w, i32_w]
      rfl
    refine pure_ (i := 6) (N := some 37) (v := ?_) (a' := ?_) #[true, true, false, true, true, true, true, false, false, false, false, false, false] rfl rfl (by kernel_rfl) (fun _ _ _ h => h) (Or.inl ⟨by rfl, ?_⟩) ?_ ?_
    rotate_left
    · intro w'
      go_simp
      with_reducible rfl
    rotate_left
    · simp only [Act.put, List.setIfInBounds_toArray, List.set_cons_zero, List.set_cons_succ, i64_w, i32_w]
      rfl
    refine pure_ (i := 8) (N := some 39) (v := ?_) (a' := ?_) #[true, true, false, true, true, true, true, false, true, false, false, false, false] rfl rfl (by kernel_rfl) (fun _ _ _ h => h) (Or.inl ⟨by rfl, ?_⟩) ?_ ?_
    rotate_left
    · intro w'
      go_simp
      with_reducible rfl
    rotate_left
    · simp only [Act.put, List.setIfInBounds_toArray, List.set_cons_zero, List.set_cons_succ, i64_w, i32_w]
      rfl
    refine take_ (i := 7) (N := some 38) (v := ?_) (a' := ?_) #[true, true, false, true, true, true, true, true, true, false, false, false, false] rfl rfl (by kernel_rfl) (fun _ _ _ h => h) (Or.inl ⟨by rfl, ?_⟩) hHeld ?_ ?_
    rotate_left
    · rintro w' ⟨s0, s1⟩
      go_simp
      with_reducible rfl
    rotate_left
    · simp only [Act.put, List.setIfInBounds_toArray, List.set_cons_zero, List.set_cons_succ, i64_w, i32_w]
      rfl
    refine pure_ (i := 9) (N := some 40) (v := ?_) (a' := ?_) #[true, true, false, true, true, true, true, true, true, true, false, false, false] rfl rfl (by kernel_rfl) (fun _ _ _ h => h) (Or.inl ⟨by rfl, ?_⟩) ?_ ?_
    rotate_left
    · intro w'
      go_simp
      with_reducible rfl
    rotate_left
    · simp only [Act.put, List.setIfInBounds_toArray, List.set_cons_zero, List.set_cons_succ, i64_w, i32_w]
      rfl
    refine pure_ (i := 10) (N := some 41) (v := ?_) (a' := ?_) #[true, true, false, true, true, true, true, true, true, true, true, false, false] rfl rfl (by kernel_rfl) (fun _ _ _ h => h) (Or.inl ⟨by rfl, ?_⟩) ?_ ?_
    rotate_left
    · intro w'
      go_simp
      with_reducible rfl
    rotate_left
    · simp only [Act.put, List.setIfInBounds_toArray, List.set_cons_zero, List.set_cons_succ, i64_w, i32_w]
      rfl
    refine take_ (i := 11) (N := some 42) (v := ?_) (a' := ?_) #[true, true, false, true, true, true, true, true, true, true, true, true, false] rfl rfl (by kernel_rfl) (fun _ _ _ h => h) (Or.inl ⟨by rfl, ?_⟩) hHeld ?_ ?_
    rotate_left
    · rintro w' ⟨s0, s1⟩
      go_simp
      with_reducible rfl
    rotate_left
    · simp only [Act.put, List.setIfInBounds_toArray, List.set_cons_zero, List.set_cons_succ, i64_w, i32_w]
      rfl
    refine one_ (i := 2) (N := some 33) #[true, true, true, true, true, true, true, true, true, true, true, true, false] rfl rfl (by kernel_rfl) (by decide) (fun K hK => ?_)
    refine goes_ Try.func36 (by kernel_rfl) rfl #[.pointer (some ⟨b, 0, none⟩), .int .i64 l] (by rfl) rfl rfl (by first | rfl | (simp only [List.map_toArray, List.map_cons, List.map_nil]; done) | (simp only [List.map_toArray, List.map_cons, List.map_nil]; rfl)) ?_
    with_reducible refine (rseats_n H3.out hn HE.out l hsn).mono ?_
    rintro e w3 ⟨rfl, hb9⟩
    refine ⟨_, rfl, ?_⟩
    refine hK.out _ _ ⟨(keep_cell hb9 y1), (keep_cell hb9 yq)⟩ (fun hHeld => ?_)
    clear hK K
    refine norm_ (a' := ?_) ?_ ?_
    rotate_left
    · show Act.put _ (some 33) _ = _
      simp only [Act.put, List.setIfInBounds_toArray, List.set_cons_zero, List.set_cons_succ, i64_w, i32_w]
      rfl
    refine pure_ (i := 12) (N := some 43) (v := ?_) (a' := ?_) #[true, true, true, true, true, true, true, true, true, true, true, true, true] rfl rfl (by kernel_rfl) (fun _ _ _ h => h) (Or.inl ⟨by rfl, ?_⟩) ?_ ?_
    rotate_left
    · intro w'
      go_simp
      with_reducible rfl
    rotate_left
    · simp only [Act.put, List.setIfInBounds_toArray, List.set_cons_zero, List.set_cons_succ, i64_w, i32_w]
      rfl
    refine done_ (by kernel_rfl) ?_

    have hb3 : Below W.heap.size W w3 := below_step (below_step hbb (below_drew1 (below_alloc (Below.refl w2.heap.size w2) (.cells #[.int .i64 q.conn, .bool false, .int .i64 q.silent, .int .i64 q.wrong, .int .i64 q.locked] 73)))) hb9
    have H4 := Lib.hid (H3.out.below hb9)
    have hb4 := keep_blk hb9 hbx
    obtain ⟨d0, d1, d2, d3, d4⟩ := boxed5 hb4
    have z1 := free_blk hb4 1
    have z2 := free_blk hb4 2
    have zz := lt_blk hb4
    by_cases h2 : n ≥ qt.f2
    · go_wp2
      go_ret
      exact ⟨rfl, by rw [HS.out]; exact refdid_same hb3 H4.out⟩
    · have HB4 := Lib.hid hb4
      have hzz : W.heap.size ≤ w2.heap.size := hbb.size
      have hzw : w.heap.size ≤ w2.heap.size := H2.out.B.size
      have hzb : b ≠ w2.heap.size := by omega
      have hzg : g ≠ w2.heap.size := by omega
      go_wp2_with (first
        | (go_at_call 47; (with_reducible refine (rset_c ((H4.out.far hzb hzg hzw).far hzb hzg hzw) k hk hn ⟨q.conn, true, 0, q.wrong, q.locked⟩).mono ?_); rintro e w5 ⟨rfl, g5, c5, r5, o5⟩))
      go_ret
      exact ⟨rfl, g5, c5, r5, (((Only.of hb3).step_new hzz).step_new hzz).step o5⟩
  · rw [if_pos rfl]
    go_enter Try.func29, Try.ntmps29
    go_wp2_with (first
      | (go_at_call 46; (with_reducible refine (rno_in H.out k hk hn).mono ?_); rintro e w2 ⟨rfl, hbb⟩; have H2 := Lib.hid (H.out.below hbb); have C := H2.out.guest k hk; rw [hg.out] at C; obtain ⟨c0, c1, c2, c3, c4⟩ := C; obtain ⟨x0, x1, x2, x3⟩ := boxed4 H2.out.d; have zb := lt_blk H2.out.d; have zg := H2.out.r.lt))
    go_ret
    exact ⟨rfl, by rw [HS.out]; exact refdid_same (below_step hbb (below_alloc (Below.refl _ _) _)) (H2.out.below (below_alloc (Below.refl _ _) _))⟩
end Go.Proofs.Ytkfjolhlnhbgjaa.D
namespace Go.Proofs.Ytkfjolhlnhbgjaa.D
open Go.RowKit Go.Proofs.Ytkfjolhlnhbgjaa.P Go.Proofs.YtkfjolhlnhbgjaaBase Go.Proofs.YtkfjolhlnhbgjaaW.PrintWords Go.Proofs.YtkfjolhlnhbgjaaW.PrintLast Go.Proofs.Ytkfjolhlnhbgjaa.Q Go.Proofs.Ytkfjolhlnhbgjaa.L
set_option linter.unusedVariables false
set_option linter.unusedSimpArgs false

theorem make_r (W : World) (n : Nat) (h : n ≤ 8) : (Instr.makeSlice 69 (.int .i64 (n : Int)) (.int .i64 (n : Int))).run Try.prog W = .ok (.slice (some ⟨W.heap.size, 0, none⟩) n n) (W.alloc (.cells (encG (List.replicate n g0)).toArray 73)) := by
  obtain ⟨i, hi, hz⟩ := Option.map_eq_some_iff.1 (show (Try.prog.info? 73).map (fun i => (i.zero, i.size, i.bytes)) = some (some (.agg #[.int .i64 0, .bool false, .int .i64 0, .int .i64 0, .int .i64 0]), 5, 40) by kernel_rfl)
  simp only [Prod.mk.injEq] at hz
  have := run_make (P := Try.prog) W 69 73 i _ Try.underlying69 hi hz.1 .i64 .i64 (n : Int) (n : Int) (by omega) (by omega) (by rw [hz.2.2]; omega) (by omega)
  rw [this, hz.2.1, Int.toNat_natCast]
  show Result.ok _ (W.alloc (.cells (madeCells #[.int .i64 0, .bool false, .int .i64 0, .int .i64 0, .int .i64 0] (n * 5)) 73)) = _
  rw [made0 n h]
set_option maxHeartbeats 4000000 in
theorem rnew_no {w : World} {p : Pol} {x : PAt} (hp : PIn w p x) (hr : Hid (rightV p.ls p.qs p.es = 11)) : Calls Try.prog 26 #[.agg #[.slice x.A0 p.ls.length x.c0, .slice x.A1 p.qs.length x.c1, .slice x.A2 p.es.length x.c2]] w fun e w' => e = .returned (.tuple #[.pointer none, .int .i64 11]) ∧ Below w.heap.size w w' := by
  have Q := PQ.start hp
  clear hp
  go_enter Try.func26, Try.ntmps26
  obtain ⟨q0, q1, q2⟩ := Q.cells
  have QH := Lib.hid Q
  clear Q
  go_wp2_with (first
    | (go_at_call 45; (with_reducible refine (refright_c QH.out 11 hr).mono ?_); rintro e w2 ⟨rfl, hbb⟩))
  go_ret2
  exact ⟨rfl, below_step QH.out.b hbb⟩
def RNewOut (w : World) (p : Pol) (x : PAt) (e : Ending) (w' : World) : Prop := ∃ b g, e = .returned (.tuple #[.pointer (some ⟨b, 0, none⟩), .int .i64 0]) ∧ RefAt w w' b p x g p.es.length (List.replicate p.es.length g0)
set_option maxRecDepth 100000 in
set_option maxHeartbeats 8000000 in
theorem rnew_yes {w : World} {p : Pol} {x : PAt} (hp : PIn w p x) (hr : Hid (rightV p.ls p.qs p.es = 0)) (hE8 : Hid (p.es.length ≤ 8)) : Calls Try.prog 26 #[.agg #[.slice x.A0 p.ls.length x.c0, .slice x.A1 p.qs.length x.c1, .slice x.A2 p.es.length x.c2]] w (RNewOut w p x) := by
  have Q := PQ.start hp
  have HP := Lib.hid hp
  clear hp
  go_enter Try.func26, Try.ntmps26
  obtain ⟨q0, q1, q2⟩ := Q.cells
  have QH := Lib.hid Q
  clear Q
  go_upto_region 4 with (first
    | (go_at_call 45; (with_reducible refine (refright_c QH.out 0 hr).mono ?_); rintro e w2 ⟨rfl, hbb⟩))
  have Q := (QH.out.below hbb).drew
  refine start_ (n := 9) (S := fun w' => w'.cell? ⟨w.heap.size, 0, none⟩ = some (.slice x.A0 p.ls.length x.c0) ∧ w'.cell? ⟨w.heap.size, 1, none⟩ = some (.slice x.A1 p.qs.length x.c1) ∧ w'.cell? ⟨w.heap.size, 2, none⟩ = some (.slice x.A2 p.es.length x.c2)) (ds := []) #[false, false, false, false, false, false, false, false, false] (by kernel_rfl) rfl rfl ⟨Q.cells.1, Q.cells.2.1, Q.cells.2.2⟩ (fun hHeld => ?_)
  generalize hW0 : World.drew _ = W0 at hHeld Q ⊢
  have Q0 := Lib.hid Q
  refine pure_ (i := 1) (N := some 11) (v := ?_) (a' := ?_) #[false, true, false, false, false, false, false, false, false] rfl rfl (by kernel_rfl) (fun _ _ _ h => h) (Or.inl ⟨by rfl, ?_⟩) ?_ ?_
  rotate_left
  · intro w'
    go_simp
    with_reducible rfl
  rotate_left
  · simp only [Act.put, List.setIfInBounds_toArray, List.set_cons_zero, List.set_cons_succ, i64_w, i32_w]
    rfl
  refine take_ (i := 0) (N := some 10) (v := ?_) (a' := ?_) #[true, true, false, false, false, false, false, false, false] rfl rfl (by kernel_rfl) (fun _ _ _ h => h) (Or.inl ⟨by rfl, ?_⟩) hHeld ?_ ?_
  rotate_left
  · rintro w' ⟨s0, s1, s2⟩
    go_simp
    with_reducible rfl
  rotate_left
  · simp only [Act.put, List.setIfInBounds_toArray, List.set_cons_zero, List.set_cons_succ, i64_w, i32_w]
    rfl
  refine take_ (i := 2) (N := some 12) (v := ?_) (a' := ?_) #[true, true, true, false, false, false, false, false, false] rfl rfl (by kernel_rfl) (fun _ _ _ h => h) (Or.inl ⟨by rfl, ?_⟩) hHeld ?_ ?_
  rotate_left
  · rintro w' ⟨s0, s1, s2⟩
    go_simp
    with_reducible rfl
  rotate_left
  · simp only [Act.put, List.setIfInBounds_toArray, List.set_cons_zero, List.set_cons_succ, i64_w, i32_w]
    rfl
  refine pure_ (i := 3) (N := some 13) (v := ?_) (a' := ?_) #[true, true, true, true, false, false, false, false, false] rfl rfl (by kernel_rfl) (fun _ _ _ h => h) (Or.inl ⟨by rfl, ?_⟩) ?_ ?_
  rotate_left
  · intro w'
    go_simp
    with_reducible rfl
  rotate_left
  · simp only [Act.put, List.setIfInBounds_toArray, List.set_cons_zero, List.set_cons_succ, i64_w, i32_w]
    rfl
  refine one_ (i := 4) (N := some 14) #[true, true, true, true, true, false, false, false, false] rfl rfl (by kernel_rfl) (by decide) (fun K hK => ?_)
  refine value_ (w1 := ?_) (v := ?_) (by rfl) rfl ?_ ?_
  rotate_left 2
  · go_simp
    rw [make_r _ _ hE8.out]
    rfl
  have hG2 := new_blk W0 (.cells (encG (List.replicate p.es.length g0)).toArray 73)
  replace Q := Q.old (.cells (encG (List.replicate p.es.length g0)).toArray 73)
  refine hK.out _ _ ⟨Q.cells.1, Q.cells.2.1, Q.cells.2.2⟩ (fun hHeld => ?_)
  clear hK K
  refine norm_ (a' := ?_) ?_ ?_
  rotate_left
  · show Act.put _ (some 14) _ = _
    simp only [Act.put, List.setIfInBounds_toArray, List.set_cons_zero, List.set_cons_succ, i64_w, i32_w]
    rfl
  refine pure_ (i := 5) (N := some 15) (v := ?_) (a' := ?_) #[true, true, true, true, true, true, false, false, false] rfl rfl (by kernel_rfl) (fun _ _ _ h => h) (Or.inl ⟨by rfl, ?_⟩) ?_ ?_
  rotate_left
  · intro w'
    go_simp
    with_reducible rfl
  rotate_left
  · simp only [Act.put, List.setIfInBounds_toArray, List.set_cons_zero, List.set_cons_succ, i64_w, i32_w]
    rfl
  refine one_ (i := 6) (N := some 16) #[true, true, true, true, true, true, true, false, false] rfl rfl (by kernel_rfl) (by decide) (fun K hK => ?_)
  refine value_ (w1 := ?_) (v := ?_) (by rfl) rfl ?_ ?_
  rotate_left 2
  · go_simp
    constructor
    · rfl
    · rfl
  have hD := new_blk (W0.alloc (.cells (encG (List.replicate p.es.length g0)).toArray 73)) (.cells #[.slice x.A0 p.ls.length x.c0, .slice x.A1 p.qs.length x.c1, .slice x.A2 p.es.length x.c2, .slice (some ⟨W0.heap.size, 0, none⟩) p.es.length p.es.length] 71)
  have hG3 := old_blk hG2 (.cells #[.slice x.A0 p.ls.length x.c0, .slice x.A1 p.qs.length x.c1, .slice x.A2 p.es.length x.c2, .slice (some ⟨W0.heap.size, 0, none⟩) p.es.length p.es.length] 71)
  replace Q := Q.old (.cells #[.slice x.A0 p.ls.length x.c0, .slice x.A1 p.qs.length x.c1, .slice x.A2 p.es.length x.c2, .slice (some ⟨W0.heap.size, 0, none⟩) p.es.length p.es.length] 71)
  refine hK.out _ _ ⟨Q.cells.1, Q.cells.2.1, Q.cells.2.2⟩ (fun hHeld => ?_)
  clear hK K
  refine norm_ (a' := ?_) ?_ ?_
  rotate_left
  · show Act.put _ (some 16) _ = _
    simp only [Act.put, List.setIfInBounds_toArray, List.set_cons_zero, List.set_cons_succ, i64_w, i32_w]
    rfl
  refine pure_ (i := 7) (N := some 2) (v := ?_) (a' := ?_) #[true, true, true, true, true, true, true, true, false] rfl rfl (by kernel_rfl) (fun _ _ _ h => h) (Or.inl ⟨by rfl, ?_⟩) ?_ ?_
  rotate_left
  · intro w'
    go_simp
    with_reducible rfl
  rotate_left
  · simp only [Act.put, List.setIfInBounds_toArray, List.set_cons_zero, List.set_cons_succ, i64_w, i32_w]
    rfl
  refine pure_ (i := 8) (N := some 3) (v := ?_) (a' := ?_) #[true, true, true, true, true, true, true, true, true] rfl rfl (by kernel_rfl) (fun _ _ _ h => h) (Or.inl ⟨by rfl, ?_⟩) ?_ ?_
  rotate_left
  · intro w'
    go_simp
    with_reducible rfl
  rotate_left
  · simp only [Act.put, List.setIfInBounds_toArray, List.set_cons_zero, List.set_cons_succ, i64_w, i32_w]
    rfl
  refine done_ (by kernel_rfl) ?_

  go_wp2_with fail
  go_ret2
  refine ⟨_, W0.heap.size, rfl, ⟨?_, ⟨[], ?_⟩, HP.out, Q.b, ?_, Q0.out.b.size, by rw [List.length_replicate]; exact Nat.le_refl _⟩⟩
  · rw [List.length_replicate]
    simpa using hD
  · rw [List.append_nil]
    exact hG3
  · have := Q0.out.b.size
    omega
theorem rnew2 {w W : World} {p : Pol} {x : PAt} (q : PQ w p x W) (hp : PIn w p x) (hr : RightP (p.ls, p.qs, p.es)) : Calls Try.prog 26 #[.agg #[.slice x.A0 p.ls.length x.c0, .slice x.A1 p.qs.length x.c1, .slice x.A2 p.es.length x.c2]] W fun e w' => ∃ b g, e = .returned (.tuple #[.pointer (some ⟨b, 0, none⟩), .int .i64 0]) ∧ RefAt w w' b p x g p.es.length (List.replicate p.es.length g0) ∧ Below W.heap.size W w' :=
  (rnew_yes q.i (Lib.hid (by unfold rightV; rw [if_pos hr])) (Lib.hid hr.1.2.2.2.2)).mono fun e w' ⟨b, g, he, h⟩ => ⟨b, g, he, ⟨h.d, h.r, hp, below_step q.b h.B, Nat.le_trans q.b.size h.hb, Nat.le_trans q.b.size h.hg, h.m⟩, h.B⟩
theorem RowG.only {W W' : World} {g b : Nat} {gs : List G} (h : RowG W g gs) (ho : Only b W W') (hne : g ≠ b) : RowG W' g gs := by
  obtain ⟨s, h⟩ := h
  exact ⟨s, by rw [ho.blk g (lt_blk h) hne]; exact h⟩
theorem RowG.grown {W w1 : World} {g base : Nat} {ok : Nat → Prop} {gs : List G} {v : Value} {xs : List Int} (h : RowG W g gs) (hv : Kd.R (Kd.int .i64) 3 W base ok v xs) (hg : W.grownBy w1 v.ownBlock) : RowG w1 g gs := by
  obtain ⟨s, h⟩ := h
  exact ⟨s, blk_grown h hg (Kd.R_ne hv h (by decide))⟩
theorem RefAt.grown {w W w1 : World} {b : Nat} {p : Pol} {x : PAt} {g c base : Nat} {ok : Nat → Prop} {gs : List G} {v : Value} {xs : List Int} (h : RefAt w W b p x g c gs) (hv : Kd.R (Kd.int .i64) 3 W base ok v xs) (hg : W.grownBy w1 v.ownBlock) (hb : w.heap.size ≤ base) (hB : base ≤ W.heap.size) : RefAt w w1 b p x g c gs :=
  ⟨blk_grown h.d hg (Kd.R_ne hv h.d (by decide)), h.r.grown hv hg, h.i, pw_below_grown h.B _ (Nat.le_trans hb hB) hg (fun k hk => Nat.le_trans hb (own_ge hv k hk)), h.hb, h.hg, h.m⟩
theorem RowG.ne {W : World} {g b : Nat} {gs : List G} {cs : Array Value} {t : TypeId} {fr : Nat × Nat} (h : RowG W g gs) (hb : W.heap[b]? = some (.cells cs t fr)) (ht : t ≠ 73) : g ≠ b := by
  rintro rfl
  obtain ⟨s, h⟩ := h
  rw [h] at hb
  simp only [Option.some.injEq, Obj.cells.injEq] at hb
  exact ht hb.2.1.symm
theorem RowG.guest {W : World} {g : Nat} {gs : List G} (h : RowG W g gs) (k : Nat) (hk : k < gs.length) :
    W.cell? ⟨g, k * 5, none⟩ = some (.int .i64 (gs.getD k g0).conn) ∧ W.cell? ⟨g, k * 5 + 1, none⟩ = some (.bool (gs.getD k g0).opn) ∧ W.cell? ⟨g, k * 5 + 2, none⟩ = some (.int .i64 (gs.getD k g0).silent) ∧ W.cell? ⟨g, k * 5 + 3, none⟩ = some (.int .i64 (gs.getD k g0).wrong) ∧ W.cell? ⟨g, k * 5 + 4, none⟩ = some (.int .i64 (gs.getD k g0).locked) := by
  have e : ∀ j, j < 5 → W.cell? ⟨g, k * 5 + j, none⟩ = (gs.getD k g0).cells[j]? := fun j hj => h.cell k j hk hj
  exact ⟨by simpa [G.cells] using e 0 (by omega), by simpa [G.cells] using e 1 (by omega), by simpa [G.cells] using e 2 (by omega), by simpa [G.cells] using e 3 (by omega), by simpa [G.cells] using e 4 (by omega)⟩
theorem tg_off {g : G} (h : GoodG g) (ho : g.opn = false) : tickG g = { g with locked := max 0 (g.locked - 1) } := by
  have h0 := h.l0
  by_cases hl : 0 < g.locked
  · rw [tg_100 hl ho, show max 0 (g.locked - 1) = g.locked - 1 by omega]
  · rw [tg_000 hl ho, show max 0 (g.locked - 1) = g.locked by omega]
theorem tg_die {g : G} (h : GoodG g) (ho : g.opn = true) (hs : 24 ≤ g.silent + 1) : tickG g = ⟨g.conn, false, 0, g.wrong, max 0 (g.locked - 1)⟩ := by
  have h0 := h.l0
  by_cases hl : 0 < g.locked
  · rw [tg_111 hl ho hs, show max 0 (g.locked - 1) = g.locked - 1 by omega]
  · rw [tg_011 hl ho hs, show max 0 (g.locked - 1) = g.locked by omega]
theorem tg_on {g : G} (h : GoodG g) (ho : g.opn = true) (hs : ¬ 24 ≤ g.silent + 1) : tickG g = ⟨g.conn, true, g.silent + 1, g.wrong, max 0 (g.locked - 1)⟩ := by
  have h0 := h.l0
  by_cases hl : 0 < g.locked
  · rw [tg_110 hl ho hs, show max 0 (g.locked - 1) = g.locked - 1 by omega, ho]
  · rw [tg_010 hl ho hs, show max 0 (g.locked - 1) = g.locked by omega, ho]
def RTicked (w : World) (b : Nat) (p : Pol) (x : PAt) (W : World) (gs : List G) (e : Ending) (w' : World) : Prop := ∃ v, e = .returned v ∧ Kd.R (Kd.int .i64) 3 w' W.heap.size (fun _ => True) v (goneD gs) ∧ RefDid w b p x W (tickD gs) w'
set_option maxHeartbeats 16000000 in
theorem rtick_c {w W : World} {b : Nat} {p : Pol} {x : PAt} {g c : Nat} {gs : List G} (h : RefAt w W b p x g c gs) (hg : Good p gs) : Calls Try.prog 33 #[.pointer (some ⟨b, 0, none⟩)] W (RTicked w b p x W gs) := by
  obtain ⟨x0, x1, x2, x3⟩ := boxed4 h.d
  have H := Lib.hid h
  have GD := Lib.hid hg
  have hn := hg.n8
  have HNE := Lib.hid (h.r.ne h.d (by decide))
  have hw0 : Hid (w.heap.size ≤ W.heap.size) := Lib.hid h.B.size
  clear h hg
  go_enter Try.func33, Try.ntmps33
  go_wp2
  go_loopw [3, 11] (fun v i wr => ∃ (k g2 c2 : Nat), k ≤ gs.length ∧ i = .int .i64 k ∧ Hid (Kd.R (Kd.int .i64) 3 wr W.heap.size (fun _ => True) v (goneK gs k)) ∧ Hid (RowG wr g gs) ∧ Hid (RefAt w wr b p x g2 c2 (tickK gs k)) ∧ Hid (Only b W wr)) (fun _ i _ => gs.length - (intOf i).toNat)
  case atStart => exact ⟨0, g, c, Nat.zero_le _, rfl, Lib.hid (Kd.R_nil _ _ _ _ _), Lib.hid H.out.r, H, Lib.hid (Only.of (Below.refl _ _))⟩
  case round =>
    obtain ⟨k, g2, c2, hk, rfl, HO, HR, D0, ON⟩ := hrel
    by_cases hlt : k < gs.length
    · have hlt' : Hid (k < (tickK gs k).length) := Lib.hid (by rw [tickK_len]; exact hlt)
      have hl8 : Hid ((tickK gs k).length ≤ 8) := Lib.hid (by rw [tickK_len]; exact hn)
      obtain ⟨c0, c1, c2', c3, c4⟩ := HR.out.guest k hlt
      have hgg := GD.out.g k hlt
      obtain ⟨q, hq⟩ : ∃ q, Hid (gs.getD k g0 = q) := ⟨_, Lib.hid rfl⟩
      rw [hq.out] at c0 c1 c2' c3 c4 hgg
      have HGG := Lib.hid hgg
      obtain ⟨gc0, gc1, gs0, gs1, gw0, gw1, gl0, gl1, goc⟩ := hgg
      clear goc
      have zg := HR.out.lt
      have HNB := Lib.hid (HR.out.ne D0.out.d (by decide))
      have hsz : Hid (W.heap.size ≤ wr.heap.size) := Lib.hid (ON.out.bel 0 (Nat.zero_le _) (Nat.zero_le _)).size
      by_cases hl : 0 < q.locked - 1
      · have hl2 : decide (0 < q.locked - 1) = true := decide_eq_true hl
        cases ho : q.opn
        · have hst : Hid (tickK gs (k + 1) = (tickK gs k).set k ⟨q.conn, false, q.silent, q.wrong, q.locked - 1⟩) := Lib.hid (by simp only [tickK, hq.out]; rw [tg_off HGG.out ho, show max 0 (q.locked - 1) = q.locked - 1 by omega, ho])
          have hgo : Hid (goneK gs (k + 1) = goneK gs k) := Lib.hid (by simp only [goneK, hq.out]; rw [if_neg (by simp [dies, ho])])
          have E29 : (q.silent == 24) = false := by simp; omega
          go_wp2_with (first | (go_at_call 47; (with_reducible refine (rset_c (D0.out.below (below_alloc (Below.refl _ _) _)) k hlt'.out hl8.out ⟨q.conn, false, q.silent, q.wrong, q.locked - 1⟩).mono ?_); rintro e w4 ⟨rfl, g5, c5, r5, o5⟩))
          go_roundw
          case rel =>
            refine ⟨k + 1, g5, c5, by omega, by go_num, Lib.hid ?_, Lib.hid ?_, Lib.hid ?_, Lib.hid ?_⟩
            · rw [hgo.out]; exact R_only (Kd.R_alloc HO.out _) (old_blk D0.out.d _) (by decide) o5
            · exact (HR.out.below (below_alloc (Below.refl _ _) _)).only o5 HNB.out
            · rw [hst.out]; exact r5
            · exact (ON.out.step (Only.of (below_alloc (Below.refl _ _) _))).step o5
          case measure => simp [intOf]; omega
        · by_cases hs : 24 ≤ q.silent + 1
          · have hst : Hid (tickK gs (k + 1) = (tickK gs k).set k ⟨q.conn, false, 0, q.wrong, q.locked - 1⟩) := Lib.hid (by simp only [tickK, hq.out]; rw [tg_die HGG.out ho hs, show max 0 (q.locked - 1) = q.locked - 1 by omega])
            have hgo : Hid (goneK gs (k + 1) = goneK gs k ++ [(k : Int)]) := Lib.hid (by simp only [goneK, hq.out]; rw [if_pos (by simp only [dies, ho, Bool.true_and, decide_eq_true_eq]; omega)])
            have hs23 : q.silent = 23 := by omega
            have E29 : (q.silent + 1 == 24) = true := by simp; omega
            go_wp2_with ((with_reducible refine gate_builtin (b := .append) (xs := #[.tmp 32, .tmp 34]) rfl ?_); at_builtin; refine Hid.out ?_)
            refine Lib.hid ?_
            refine Kd.R_append (Kd.int .i64) (w0 := ?aW0) W.heap.size rfl (.tmp 32) (.tmp 34) 37 3 (.int .i64 0) 8 rfl Try.underlying37 (by kernel_rfl) rfl (by decide) (by omega) u3 (goneK gs k) (k : Int) [.int .i64 k] (fun _ => True) (fun _ => False) rfl ?aX0 ?aP0 (fun _ hk => hk.elim) ?aF0 ?aO0 ?aB0 ?aS0 ?aL0 ?_
            case aP0 => exact rfl
            case aX0 => show Value.slice (some ⟨wr.heap.size + 1, 0, none⟩) 1 1 = _; simp
            case aF0 => exact fun _ _ => trivial
            case aO0 => exact Kd.R_alloc HO.out _
            case aB0 => exact Below.refl _ _
            case aS0 => exact Nat.le_trans hsz.out (below_alloc (Below.refl wr.heap.size wr) _).size
            case aL0 => have := goneK_len gs k; omega
            intro v1 w1 hor hb hgr hat
            have HO1 := Lib.hid (Kd.R_alloc HO.out (.cells #[.int .i64 q.conn, .bool false, .int .i64 0, .int .i64 q.wrong, .int .i64 (q.locked - 1)] 73))
            have D1 := Lib.hid ((D0.out.below (below_alloc (Below.refl _ _) (.cells #[.int .i64 q.conn, .bool false, .int .i64 0, .int .i64 q.wrong, .int .i64 (q.locked - 1)] 73))).grown HO1.out hgr hw0.out (Nat.le_trans hsz.out (below_alloc (Below.refl wr.heap.size wr) _).size))
            have R1 := Lib.hid ((HR.out.below (below_alloc (Below.refl _ _) (.cells #[.int .i64 q.conn, .bool false, .int .i64 0, .int .i64 q.wrong, .int .i64 (q.locked - 1)] 73))).grown HO1.out hgr)
            have ON1 := Lib.hid ((ON.out.step (Only.of (below_alloc (Below.refl _ _) (.cells #[.int .i64 q.conn, .bool false, .int .i64 0, .int .i64 q.wrong, .int .i64 (q.locked - 1)] 73)))).grown hgr (own_ge HO1.out))
            have hbx := blk_grown (new_blk wr (.cells #[.int .i64 q.conn, .bool false, .int .i64 0, .int .i64 q.wrong, .int .i64 (q.locked - 1)] 73)) hgr (Kd.R_ne HO1.out (new_blk wr _) (by decide))
            have HOR := Lib.hid hor
            obtain ⟨d0, d1, d2, d3, d4⟩ := boxed5 hbx
            clear hor hgr hat hb
            go_wp2_with (first | (go_at_call 47; (with_reducible refine (rset_c D1.out k hlt'.out hl8.out ⟨q.conn, false, 0, q.wrong, (q.locked - 1)⟩).mono ?_); rintro e w4 ⟨rfl, g5, c5, r5, o5⟩))
            go_roundw
            case rel =>
              refine ⟨k + 1, g5, c5, by omega, by go_num, Lib.hid ?_, Lib.hid ?_, Lib.hid ?_, Lib.hid ?_⟩
              · rw [hgo.out]; exact R_only HOR.out D1.out.d (by decide) o5
              · exact R1.out.only o5 HNB.out
              · rw [hst.out]; exact r5
              · exact ON1.out.step o5
            case measure => simp [intOf]; omega
          · have hst : Hid (tickK gs (k + 1) = (tickK gs k).set k ⟨q.conn, true, q.silent + 1, q.wrong, q.locked - 1⟩) := Lib.hid (by simp only [tickK, hq.out]; rw [tg_on HGG.out ho hs, show max 0 (q.locked - 1) = q.locked - 1 by omega])
            have hgo : Hid (goneK gs (k + 1) = goneK gs k) := Lib.hid (by simp only [goneK, hq.out]; rw [if_neg (by simp only [dies, ho, Bool.true_and, decide_eq_true_eq]; omega)])
            have E29 : (q.silent + 1 == 24) = false := by simp; omega
            go_wp2_with (first | (go_at_call 47; (with_reducible refine (rset_c (D0.out.below (below_alloc (Below.refl _ _) _)) k hlt'.out hl8.out ⟨q.conn, true, q.silent + 1, q.wrong, q.locked - 1⟩).mono ?_); rintro e w4 ⟨rfl, g5, c5, r5, o5⟩))
            go_roundw
            case rel =>
              refine ⟨k + 1, g5, c5, by omega, by go_num, Lib.hid ?_, Lib.hid ?_, Lib.hid ?_, Lib.hid ?_⟩
              · rw [hgo.out]; exact R_only (Kd.R_alloc HO.out _) (old_blk D0.out.d _) (by decide) o5
              · exact (HR.out.below (below_alloc (Below.refl _ _) _)).only o5 HNB.out
              · rw [hst.out]; exact r5
              · exact (ON.out.step (Only.of (below_alloc (Below.refl _ _) _))).step o5
            case measure => simp [intOf]; omega
      · have hl2 : decide (0 < q.locked - 1) = false := decide_eq_false hl
        cases ho : q.opn
        · have hst : Hid (tickK gs (k + 1) = (tickK gs k).set k ⟨q.conn, false, q.silent, q.wrong, 0⟩) := Lib.hid (by simp only [tickK, hq.out]; rw [tg_off HGG.out ho, show max 0 (q.locked - 1) = 0 by omega, ho])
          have hgo : Hid (goneK gs (k + 1) = goneK gs k) := Lib.hid (by simp only [goneK, hq.out]; rw [if_neg (by simp [dies, ho])])
          have E29 : (q.silent == 24) = false := by simp; omega
          go_wp2_with (first | (go_at_call 47; (with_reducible refine (rset_c (D0.out.below (below_alloc (Below.refl _ _) _)) k hlt'.out hl8.out ⟨q.conn, false, q.silent, q.wrong, 0⟩).mono ?_); rintro e w4 ⟨rfl, g5, c5, r5, o5⟩))
          go_roundw
          case rel =>
            refine ⟨k + 1, g5, c5, by omega, by go_num, Lib.hid ?_, Lib.hid ?_, Lib.hid ?_, Lib.hid ?_⟩
            · rw [hgo.out]; exact R_only (Kd.R_alloc HO.out _) (old_blk D0.out.d _) (by decide) o5
            · exact (HR.out.below (below_alloc (Below.refl _ _) _)).only o5 HNB.out
            · rw [hst.out]; exact r5
            · exact (ON.out.step (Only.of (below_alloc (Below.refl _ _) _))).step o5
          case measure => simp [intOf]; omega
        · by_cases hs : 24 ≤ q.silent + 1
          · have hst : Hid (tickK gs (k + 1) = (tickK gs k).set k ⟨q.conn, false, 0, q.wrong, 0⟩) := Lib.hid (by simp only [tickK, hq.out]; rw [tg_die HGG.out ho hs, show max 0 (q.locked - 1) = 0 by omega])
            have hgo : Hid (goneK gs (k + 1) = goneK gs k ++ [(k : Int)]) := Lib.hid (by simp only [goneK, hq.out]; rw [if_pos (by simp only [dies, ho, Bool.true_and, decide_eq_true_eq]; omega)])
            have hs23 : q.silent = 23 := by omega
            have E29 : (q.silent + 1 == 24) = true := by simp; omega
            go_wp2_with ((with_reducible refine gate_builtin (b := .append) (xs := #[.tmp 32, .tmp 34]) rfl ?_); at_builtin; refine Hid.out ?_)
            refine Lib.hid ?_
            refine Kd.R_append (Kd.int .i64) (w0 := ?aW1) W.heap.size rfl (.tmp 32) (.tmp 34) 37 3 (.int .i64 0) 8 rfl Try.underlying37 (by kernel_rfl) rfl (by decide) (by omega) u3 (goneK gs k) (k : Int) [.int .i64 k] (fun _ => True) (fun _ => False) rfl ?aX1 ?aP1 (fun _ hk => hk.elim) ?aF1 ?aO1 ?aB1 ?aS1 ?aL1 ?_
            case aP1 => exact rfl
            case aX1 => show Value.slice (some ⟨wr.heap.size + 1, 0, none⟩) 1 1 = _; simp
            case aF1 => exact fun _ _ => trivial
            case aO1 => exact Kd.R_alloc HO.out _
            case aB1 => exact Below.refl _ _
            case aS1 => exact Nat.le_trans hsz.out (below_alloc (Below.refl wr.heap.size wr) _).size
            case aL1 => have := goneK_len gs k; omega
            intro v1 w1 hor hb hgr hat
            have HO1 := Lib.hid (Kd.R_alloc HO.out (.cells #[.int .i64 q.conn, .bool false, .int .i64 0, .int .i64 q.wrong, .int .i64 0] 73))
            have D1 := Lib.hid ((D0.out.below (below_alloc (Below.refl _ _) (.cells #[.int .i64 q.conn, .bool false, .int .i64 0, .int .i64 q.wrong, .int .i64 0] 73))).grown HO1.out hgr hw0.out (Nat.le_trans hsz.out (below_alloc (Below.refl wr.heap.size wr) _).size))
            have R1 := Lib.hid ((HR.out.below (below_alloc (Below.refl _ _) (.cells #[.int .i64 q.conn, .bool false, .int .i64 0, .int .i64 q.wrong, .int .i64 0] 73))).grown HO1.out hgr)
            have ON1 := Lib.hid ((ON.out.step (Only.of (below_alloc (Below.refl _ _) (.cells #[.int .i64 q.conn, .bool false, .int .i64 0, .int .i64 q.wrong, .int .i64 0] 73)))).grown hgr (own_ge HO1.out))
            have hbx := blk_grown (new_blk wr (.cells #[.int .i64 q.conn, .bool false, .int .i64 0, .int .i64 q.wrong, .int .i64 0] 73)) hgr (Kd.R_ne HO1.out (new_blk wr _) (by decide))
            have HOR := Lib.hid hor
            obtain ⟨d0, d1, d2, d3, d4⟩ := boxed5 hbx
            clear hor hgr hat hb
            go_wp2_with (first | (go_at_call 47; (with_reducible refine (rset_c D1.out k hlt'.out hl8.out ⟨q.conn, false, 0, q.wrong, 0⟩).mono ?_); rintro e w4 ⟨rfl, g5, c5, r5, o5⟩))
            go_roundw
            case rel =>
              refine ⟨k + 1, g5, c5, by omega, by go_num, Lib.hid ?_, Lib.hid ?_, Lib.hid ?_, Lib.hid ?_⟩
              · rw [hgo.out]; exact R_only HOR.out D1.out.d (by decide) o5
              · exact R1.out.only o5 HNB.out
              · rw [hst.out]; exact r5
              · exact ON1.out.step o5
            case measure => simp [intOf]; omega
          · have hst : Hid (tickK gs (k + 1) = (tickK gs k).set k ⟨q.conn, true, q.silent + 1, q.wrong, 0⟩) := Lib.hid (by simp only [tickK, hq.out]; rw [tg_on HGG.out ho hs, show max 0 (q.locked - 1) = 0 by omega])
            have hgo : Hid (goneK gs (k + 1) = goneK gs k) := Lib.hid (by simp only [goneK, hq.out]; rw [if_neg (by simp only [dies, ho, Bool.true_and, decide_eq_true_eq]; omega)])
            have E29 : (q.silent + 1 == 24) = false := by simp; omega
            go_wp2_with (first | (go_at_call 47; (with_reducible refine (rset_c (D0.out.below (below_alloc (Below.refl _ _) _)) k hlt'.out hl8.out ⟨q.conn, true, q.silent + 1, q.wrong, 0⟩).mono ?_); rintro e w4 ⟨rfl, g5, c5, r5, o5⟩))
            go_roundw
            case rel =>
              refine ⟨k + 1, g5, c5, by omega, by go_num, Lib.hid ?_, Lib.hid ?_, Lib.hid ?_, Lib.hid ?_⟩
              · rw [hgo.out]; exact R_only (Kd.R_alloc HO.out _) (old_blk D0.out.d _) (by decide) o5
              · exact (HR.out.below (below_alloc (Below.refl _ _) _)).only o5 HNB.out
              · rw [hst.out]; exact r5
              · exact (ON.out.step (Only.of (below_alloc (Below.refl _ _) _))).step o5
            case measure => simp [intOf]; omega
    · have hkl : k = gs.length := by omega
      subst hkl
      go_wp2
      go_ret
      exact ⟨_, rfl, HO.out, g2, c2, by unfold tickD; rw [← tickK_map]; exact D0.out, ON.out⟩
end Go.Proofs.Ytkfjolhlnhbgjaa.D
namespace Go.Proofs.Ytkfjolhlnhbgjaa.D
open Go.RowKit Go.Proofs.Ytkfjolhlnhbgjaa.P Go.Proofs.YtkfjolhlnhbgjaaBase Go.Proofs.YtkfjolhlnhbgjaaW.PrintWords Go.Proofs.YtkfjolhlnhbgjaaW.PrintLast Go.Proofs.Ytkfjolhlnhbgjaa.Q Go.Proofs.Ytkfjolhlnhbgjaa.L
set_option linter.unusedVariables false
set_option linter.unusedSimpArgs false

section
variable {w W W' : World} {p : Pol} {x : PAt} {b : Nat} {y : PAt} {bl : Nat} {gd gd' : List G} {rb g c : Nat} {gr gr' : List G}
/-- the policy's box, a desk, and the reference's -/
structure LP (w W : World) (p : Pol) (x : PAt) (b : Nat) (y : PAt) (bl : Nat) (gd : List G) (rb g c : Nat) (gr : List G) : Prop where
  q : PQ w p x W
  d : DeskAt w.heap.size W b p y bl gd
  r : RefAt w W rb p x g c gr
theorem LP.below (h : LP w W p x b y bl gd rb g c gr) (hb : Below W.heap.size W W') : LP w W' p x b y bl gd rb g c gr := ⟨h.q.below hb, h.d.below hb, h.r.below hb⟩
theorem LP.desk (h : LP w W p x b y bl gd rb g c gr) (ho : Only bl W W') (hd : DeskAt w.heap.size W' b p y bl gd') : LP w W' p x b y bl gd' rb g c gr :=
  ⟨PQ.only h.r.i h.q h.d ho, hd, ⟨only_blk2 h.d.g ho h.r.d (by decide), h.r.r.only ho (h.r.r.ne h.d.g (by decide)), h.r.i, h.r.B.trans (ho.bel _ h.d.hl h.r.B.size), h.r.hb, h.r.hg, h.r.m⟩⟩
theorem only_blk3 {cs cs' : Array Value} {t t' bl : Nat} {fr fr' : Nat × Nat} (hb : W.heap[bl]? = some (.cells cs' t' fr')) (ho : Only bl W W') {k : Nat} (hk : W.heap[k]? = some (.cells cs t fr)) (ht : t ≠ t') : W'.heap[k]? = some (.cells cs t fr) := by
  rw [ho.blk k (lt_blk hk) (by
    rintro rfl
    rw [hk] at hb
    simp only [Option.some.injEq, Obj.cells.injEq] at hb
    exact ht hb.2.1)]
  exact hk
theorem LP.ref (h : LP w W p x b y bl gd rb g c gr) (hr : RefDid w rb p x W gr' W') : ∃ g' c', LP w W' p x b y bl gd rb g' c' gr' := by
  obtain ⟨g', c', h1, ho⟩ := hr
  have hB := h.q.b.trans (ho.bel _ h.r.hb h.q.b.size)
  exact ⟨g', c', ⟨hB, h.r.i.below hB, only_blk3 h.r.d ho h.q.box (by decide)⟩, ⟨only_blk3 h.r.d ho h.d.d (by decide), only_blk3 h.r.d ho h.d.g (by decide), ⟨R_only h.d.o.r0 h.r.d (by decide) ho, R_only h.d.o.r1 h.r.d (by decide) ho, R_only h.d.o.r2 h.r.d (by decide) ho⟩, h.d.hb, h.d.hl⟩, h1⟩
theorem LP.refblk (h : LP w W p x b y bl gd rb g c gr) (hr : RefDid w rb p x W gr' W') {k : Nat} {cs : Array Value} {t : Nat} {fr : Nat × Nat} (hk : W.heap[k]? = some (.cells cs t fr)) (ht : t ≠ 71) : W'.heap[k]? = some (.cells cs t fr) := by
  obtain ⟨g', c', h1, ho⟩ := hr
  exact only_blk3 h.r.d ho hk ht
theorem LP.refrow (h : LP w W p x b y bl gd rb g c gr) (hr : RefDid w rb p x W gr' W') {base : Nat} {v : Value} {l : List Int} (hk : Kd.R (Kd.int .i64) 3 W base (fun _ => True) v l) : Kd.R (Kd.int .i64) 3 W' base (fun _ => True) v l := by
  obtain ⟨g', c', h1, ho⟩ := hr
  exact R_only hk h.r.d (by decide) ho
theorem LP.grown {w1 : World} {base : Nat} {ok : Nat → Prop} {v : Value} {xs : List Int} (h : LP w W p x b y bl gd rb g c gr) (hv : Kd.R (Kd.int .i64) 3 W base ok v xs) (hg : W.grownBy w1 v.ownBlock) (hb : w.heap.size ≤ base) (hB : base ≤ W.heap.size) : LP w w1 p x b y bl gd rb g c gr := by
  have hr := h.r.grown hv hg hb hB
  exact ⟨⟨hr.B, hr.i.below hr.B, blk_grown h.q.box hg (Kd.R_ne hv h.q.box (by decide))⟩, h.d.grown hv hg, hr⟩
end
section
variable {w W : World} {b : Nat} {p : Pol} {x : PAt} {g c : Nat} {gs : List G}
def RDid (w : World) (b : Nat) (p : Pol) (x : PAt) (W : World) (r : List G × Int) (e : Ending) (w' : World) : Prop := e = .returned (.int .i64 r.2) ∧ RefDid w b p x W r.1 w'
theorem rknock_c (h : RefAt w W b p x g c gs) (hg : Good p gs) (who conn : Int) : Calls Try.prog 27 #[.pointer (some ⟨b, 0, none⟩), .int .i64 who, .int .i64 conn] W fun e w' => e = .returned (.tuple #[.bool (knockD gs who conn).1, .int .i64 (knockD gs who conn).2]) ∧ Below W.heap.size W w' := by
  unfold knockD
  rcases in_or gs who with ⟨k, rfl, hk⟩ | ho
  · rw [if_pos ⟨by omega, by omega⟩, Int.toNat_natCast]
    exact rknock_in h k hk hg.n8 conn
  · rw [if_neg (by omega)]
    have H := Lib.hid h
    have HO := Lib.hid ho
    have hn := hg.n8
    clear h ho hg
    go_enter Try.func27, Try.ntmps27
    go_wp2_with (first
      | (go_at_call 46; (with_reducible refine (rno_out H.out who HO.out hn).mono ?_); rintro e w2 ⟨rfl, hbb⟩))
    go_ret2
    exact ⟨rfl, hbb⟩
theorem rwrong_c (h : RefAt w W b p x g c gs) (hg : Good p gs) (who : Int) : Calls Try.prog 28 #[.pointer (some ⟨b, 0, none⟩), .int .i64 who] W (RDid w b p x W (wrongD gs who)) := by
  rcases in_or gs who with ⟨k, rfl, hk⟩ | ho
  · unfold wrongD
    rw [upd_in gs k hk]
    exact (rwrong_in h k hk hg.n8 ⟨(hg.g k hk).w0, (hg.g k hk).w1⟩).mono fun e w' h' => h'
  · unfold wrongD
    rw [upd_out gs who ho]
    have H := Lib.hid h
    have HO := Lib.hid ho
    have hn := hg.n8
    clear h ho hg
    go_enter Try.func28, Try.ntmps28
    go_wp2_with (first
      | (go_at_call 46; (with_reducible refine (rno_out H.out who HO.out hn).mono ?_); rintro e w2 ⟨rfl, hbb⟩))
    go_ret
    exact ⟨rfl, refdid_same hbb (H.out.below hbb)⟩
theorem rheard_c (h : RefAt w W b p x g c gs) (hg : Good p gs) (who : Int) : Calls Try.prog 30 #[.pointer (some ⟨b, 0, none⟩), .int .i64 who] W (RDid w b p x W (heardD gs who)) := by
  rcases in_or gs who with ⟨k, rfl, hk⟩ | ho
  · unfold heardD
    rw [upd_in gs k hk]
    exact (rheard_in h k hk hg.n8).mono fun e w' h' => h'
  · unfold heardD
    rw [upd_out gs who ho]
    have H := Lib.hid h
    have HO := Lib.hid ho
    have hn := hg.n8
    clear h ho hg
    go_enter Try.func30, Try.ntmps30
    go_wp2_with (first
      | (go_at_call 46; (with_reducible refine (rno_out H.out who HO.out hn).mono ?_); rintro e w2 ⟨rfl, hbb⟩))
    go_ret
    exact ⟨rfl, refdid_same hbb (H.out.below hbb)⟩
theorem rshut_c (h : RefAt w W b p x g c gs) (hg : Good p gs) (who : Int) : Calls Try.prog 31 #[.pointer (some ⟨b, 0, none⟩), .int .i64 who] W (RDid w b p x W (shutD gs who)) := by
  rcases in_or gs who with ⟨k, rfl, hk⟩ | ho
  · unfold shutD
    rw [upd_in gs k hk]
    exact (rshut_in h k hk hg.n8).mono fun e w' h' => h'
  · unfold shutD
    rw [upd_out gs who ho]
    have hkn := rheard_c h hg who
    unfold heardD at hkn
    rw [upd_out gs who ho] at hkn
    have HK := Lib.hid hkn
    clear h ho hg hkn
    go_enter Try.func31, Try.ntmps31
    go_wp2_with (first
      | (go_at_call 30; (with_reducible refine HK.out.mono ?_); rintro e w2 ⟨rfl, hdid⟩))
    go_ret
    exact ⟨rfl, hdid⟩
theorem ropen_c (h : RefAt w W b p x g c gs) (hg : Good p gs) (who : Int) : Calls Try.prog 29 #[.pointer (some ⟨b, 0, none⟩), .int .i64 who] W (RDid w b p x W (openD p gs who)) := by
  rcases in_or gs who with ⟨k, rfl, hk⟩ | ho
  · unfold openD
    rw [upd_in gs k hk, Int.toNat_natCast]
    exact (ropen_in h k hk hg.n8 hg.l (hg.lab k hk)).mono fun e w' h' => h'
  · unfold openD
    rw [upd_out gs who ho]
    have H := Lib.hid h
    have HO := Lib.hid ho
    have hn := hg.n8
    clear h ho hg
    go_enter Try.func29, Try.ntmps29
    go_wp2_with (first
      | (go_at_call 46; (with_reducible refine (rno_out H.out who HO.out hn).mono ?_); rintro e w2 ⟨rfl, hbb⟩))
    go_ret
    exact ⟨rfl, refdid_same hbb (H.out.below hbb)⟩
theorem rbegin_c (h : RefAt w W b p x g c gs) (hg : Good p gs) (who conn : Int) : Calls Try.prog 34 #[.pointer (some ⟨b, 0, none⟩), .int .i64 who, .int .i64 conn] W (RDid w b p x W (beginD gs who conn)) := by
  rcases in_or gs who with ⟨k, rfl, hk⟩ | ho
  · unfold beginD
    rw [upd_in gs k hk]
    exact (rbegin_in h k hk hg.n8 conn).mono fun e w' h' => h'
  · unfold beginD
    rw [upd_out gs who ho]
    have hkn := rknock_c h hg who conn
    rw [show knockD gs who conn = (false, 1) by unfold knockD; rw [if_neg (by omega)]] at hkn
    have HK := Lib.hid hkn
    have H := Lib.hid h
    clear h ho hg hkn
    go_enter Try.func34, Try.ntmps34
    go_wp2_with (first
      | (go_at_call 27; (with_reducible refine HK.out.mono ?_); rintro e w2 ⟨rfl, hbb⟩))
    go_ret
    exact ⟨rfl, refdid_same hbb (H.out.below hbb)⟩
end
end Go.Proofs.Ytkfjolhlnhbgjaa.D
namespace Go.Proofs.Ytkfjolhlnhbgjaa.D
open Go.RowKit Go.Proofs.Ytkfjolhlnhbgjaa.P Go.Proofs.YtkfjolhlnhbgjaaBase Go.Proofs.YtkfjolhlnhbgjaaW.PrintWords Go.Proofs.YtkfjolhlnhbgjaaW.PrintLast Go.Proofs.Ytkfjolhlnhbgjaa.Q Go.Proofs.Ytkfjolhlnhbgjaa.L
set_option linter.unusedVariables false
set_option linter.unusedSimpArgs false

theorem right_or (p : Pol) : rightV p.ls p.qs p.es = 0 ∨ rightV p.ls p.qs p.es = 11 := by
  unfold rightV
  split
  · exact .inl rfl
  · exact .inr rfl
theorem R_apart {W w1 : World} {base b1 : Nat} {v u : Value} {l xs : List Int} {ok : Nat → Prop} (h : Kd.R (Kd.int .i64) 3 W base (fun k => k < b1) v l) (hu : Kd.R (Kd.int .i64) 3 W b1 ok u xs) (hg : W.grownBy w1 u.ownBlock) : Kd.R (Kd.int .i64) 3 w1 base (fun k => k < b1) v l :=
  Kd.R_grown h hg (fun k hk he => by have := own_ge hu k he.symm; omega)
theorem R_till {W : World} {base : Nat} {v : Value} {l : List Int} (h : Kd.R (Kd.int .i64) 3 W base (fun _ => True) v l) : Kd.R (Kd.int .i64) 3 W base (fun k => k < W.heap.size) v l := Kd.R_mono (Kd.R_bound h) (fun k hk => hk.2.2.1)
theorem R_only' {base bl b1 : Nat} {W w' : World} {v : Value} {l : List Int} {cs : Array Value} {t : TypeId} {fr : Nat × Nat} (h : Kd.R (Kd.int .i64) 3 W base (fun k => k < b1) v l) (hb : W.heap[bl]? = some (.cells cs t fr)) (hE : t ≠ 3) (ho : Only bl W w') : Kd.R (Kd.int .i64) 3 w' base (fun k => k < b1) v l :=
  Kd.R_mono (Kd.R_step (Kd.R_bound h) (fun k hk hlt => ho.blk k hlt (by
    obtain ⟨_, _, _, q, hq, cells, hc⟩ := hk
    rintro rfl
    rw [hb] at hc
    simp only [Option.some.injEq, Obj.cells.injEq] at hc
    have : q = 3 := by simpa [Kd.int, Kd.scalar] using hq
    exact hE (hc.2.1.trans this)))) (fun k hk => hk.1)
theorem refrow' {w W W' : World} {p : Pol} {x : PAt} {b : Nat} {y : PAt} {bl : Nat} {gd : List G} {rb g c : Nat} {gr gr' : List G} (h : LP w W p x b y bl gd rb g c gr) (hr : RefDid w rb p x W gr' W') {base b1 : Nat} {v : Value} {l : List Int} (hk : Kd.R (Kd.int .i64) 3 W base (fun k => k < b1) v l) : Kd.R (Kd.int .i64) 3 W' base (fun k => k < b1) v l := by
  obtain ⟨g', c', h1, ho⟩ := hr
  exact R_only' hk h.r.d (by decide) ho
theorem rknock_e {w W : World} {b : Nat} {p : Pol} {x : PAt} {g c : Nat} {gs : List G} (h : RefAt w W b p x g c gs) (hg : Good p gs) (who conn : Int) {fr : Bool} {er : Int} (hk : knockD gs who conn = (fr, er)) : Calls Try.prog 27 #[.pointer (some ⟨b, 0, none⟩), .int .i64 who, .int .i64 conn] W fun e w' => e = .returned (.tuple #[.bool fr, .int .i64 er]) ∧ Below W.heap.size W w' := by
  have := rknock_c h hg who conn
  rw [hk] at this
  exact this
theorem doesD_len {p : Pol} {gs : List G} (h : Good p gs) (k : Do) : (doesD p gs k).2.1.length ≤ 1000 := by
  unfold doesD
  split
  · simp
  split
  · simp
  split
  · simp
  split
  · simp
  split
  · have h1 := tickN_len h k.timesI.toNat
    have h2 := k.times_le
    simp only
    omega
  · simp
theorem LP.drewn {w W : World} {p : Pol} {x : PAt} {b : Nat} {y : PAt} {bl : Nat} {gd : List G} {rb g c : Nat} {gr : List G} (h : LP w W p x b y bl gd rb g c gr) : LP w W.drew p x b y bl gd rb g c gr := h.below (below_drew1 (Below.refl _ _))

set_option maxRecDepth 100000 in
set_option maxHeartbeats 32000000 in
theorem plays_walk (w : World) (p : Pol) (x : PAt) (hp : PIn w p x) (A : Option Addr) (c : Nat) (l : List Do) (hA : Kd.C k36 w A l.length l) (hc : l.length ≤ c) : Calls Try.prog 8 #[.agg #[.slice x.A0 p.ls.length x.c0, .slice x.A1 p.qs.length x.c1, .slice x.A2 p.es.length x.c2], .slice A l.length c] w fun e w' => e = .returned (.bool true) ∧ Below w.heap.size w w' := by
  obtain ⟨lt, hlt⟩ : ∃ lt, Hid (lightV p = lt) := ⟨_, Lib.hid rfl⟩
  have Q := Lib.hid (PQ.start hp)
  have HA := Lib.hid hA
  have HP := Lib.hid hp
  clear hp hA
  cases lt
  · go_enter Try.func8, Try.ntmps8
    obtain ⟨q0, q1, q2⟩ := Q.out.cells
    go_wp2_with (first
      | (go_at_call 10; (with_reducible refine (light_c Q.out false hlt).mono ?_); rintro e w1 ⟨rfl, hb1⟩; have Q1 := Lib.hid (Q.out.below hb1))
      | (go_at_call 12; (with_reducible refine (awake_c _).mono ?_); rintro e w2 ⟨rfl, hb2⟩; have Q2 := Lib.hid (Q1.out.below hb2)))
    go_ret
    exact ⟨rfl, Q2.out.b⟩
  by_cases hl : l.length ≤ 300
  · have E3 : decide ((300 : Int) < (l.length : Int)) = false := decide_eq_false (by omega)
    rcases right_or p with hrv | hrv
    · have hR : Hid (RightP (p.ls, p.qs, p.es)) := Lib.hid (right0 hrv)
      clear hrv
      go_enter Try.func8, Try.ntmps8
      obtain ⟨q0, q1, q2⟩ := Q.out.cells
      obtain ⟨gz, hgz⟩ : ∃ gz, Hid (List.replicate p.es.length g0 = gz) := ⟨_, Lib.hid rfl⟩
      have hg0 : Hid (Good p gz) := Lib.hid (hgz.out ▸ good0 hR.out)
      go_wp2_with (first
        | (go_at_call 10; (with_reducible refine (light_c Q.out true hlt).mono ?_); rintro e w1 ⟨rfl, hb1⟩; have Q1 := Lib.hid (Q.out.below hb1); obtain ⟨r0, r1, r2⟩ := Q1.out.cells)
        | (go_at_call 13; (with_reducible refine (new2_c Q1.out hR.out).mono ?_); rintro e w2 ⟨b, bl, y, rfl, hL3, hD, hB⟩; rw [hgz.out] at hL3 hD; have I3 := Lib.hid hL3; obtain ⟨t0, t1, t2⟩ := I3.out.q.cells)
        | (go_at_call 26; (with_reducible refine (rnew2 I3.out.q HP.out hR.out).mono ?_); rintro e w4 ⟨rb, gg, rfl, hr4, hB4⟩; rw [hgz.out] at hr4; have I4 : Hid (LP w w4 p x b y bl gz rb gg p.es.length gz) := Lib.hid ⟨I3.out.q.below hB4, I3.out.d.below hB4, hr4⟩))
      go_loopg [57] l.length (fun gq v57 wr => ∃ (j g c2 : Nat) (gs : List G), j ≤ l.length ∧ gq = l.length - j ∧ v57 = .int .i64 j ∧ Hid (LP w wr p x b y bl gs rb g c2 gs) ∧ Hid (Good p gs))
      case atStart => exact ⟨0, gg, _, gz, by omega, by omega, rfl, I4, hg0⟩
      case round =>
        obtain ⟨j, g, c2, gs, hj, hgk, rfl, J, GG⟩ := hrel
        subst hgk
        by_cases hltj : j < l.length
        · obtain ⟨ad, rfl, e0, e1, e2, e3⟩ := at36 HA.out J.out.q.b j hltj
          have za := World.block_lt_of_cell? _ _ e0
          obtain ⟨dk, hdk⟩ : ∃ d, Hid (l.getD j zDo = d) := ⟨_, Lib.hid rfl⟩
          rw [hdk.out] at e0 e1 e2 e3
          obtain ⟨op, who, conn, n⟩ := dk
          simp only at e0 e1 e2 e3
          have J0 := Lib.hid (J.out.below (below_alloc (Below.refl _ _) (.cells #[.int .i64 op, .int .i64 who, .int .i64 conn, .int .i64 n] 36)))
          have KB0 : Hid ((wr.alloc (.cells #[.int .i64 op, .int .i64 who, .int .i64 conn, .int .i64 n] 36)).heap[wr.heap.size]? = some (.cells #[.int .i64 op, .int .i64 who, .int .i64 conn, .int .i64 n] 36 (0, 0))) := Lib.hid (new_blk wr _)
          obtain ⟨⟨fr, er0⟩, hkn⟩ : ∃ s, Hid (knockD gs who conn = s) := ⟨_, Lib.hid rfl⟩
          obtain ⟨gs1, hgs1⟩ : ∃ g1, Hid ((doesD p gs (Do.mk op who conn n)).1 = g1) := ⟨_, Lib.hid rfl⟩
          obtain ⟨gn, hgn⟩ : ∃ g1, Hid ((doesD p gs (Do.mk op who conn n)).2.1 = g1) := ⟨_, Lib.hid rfl⟩
          obtain ⟨er, her⟩ : ∃ er, Hid ((doesD p gs (Do.mk op who conn n)).2.2 = er) := ⟨_, Lib.hid rfl⟩
          have GG1 : Hid (Good p gs1) := Lib.hid (by rw [← hgs1.out]; exact doesD_good GG.out _)
          go_upto_block 2 with (first
            | (go_at_call 25; (with_reducible refine (knock_e J0.out.d GG.out who conn hkn.out).mono ?_); rintro e w5 ⟨rfl, hb5⟩; have J1 := Lib.hid (J0.out.below hb5); have KB1 := Lib.hid (keep_blk hb5 KB0.out); obtain ⟨a0, a1, a2, a3⟩ := boxed4 KB1.out)
            | (go_at_call 27; (with_reducible refine (rknock_e J1.out.r GG.out who conn hkn.out).mono ?_); rintro e w6 ⟨rfl, hb6⟩; have J2 := Lib.hid (J1.out.below hb6); have KB2 := Lib.hid (keep_blk hb6 KB1.out); obtain ⟨b0, b1, b2, b3⟩ := boxed4 KB2.out)
            | (go_at_call 14; (with_reducible refine (does_c J2.out.d GG.out (Do.mk op who conn n)).mono ?_); rintro e w7 ⟨v15, rfl, hv, hd, ho⟩; rw [hgs1.out] at hd; rw [hgn.out] at hv; rw [her.out]; have J3 := Lib.hid (J2.out.desk ho hd); have KB3 := Lib.hid (only_blk2 J2.out.d.g ho KB2.out (by decide)); have R3 := Lib.hid (R_till hv); obtain ⟨d0, d1, d2, d3⟩ := boxed4 KB3.out))
          go_cut [8, 17] (fun v8 v17 wx => ∃ g5 c5 : Nat, v8 = .int .i64 er ∧ Hid (Kd.R (Kd.int .i64) 3 wx w6.heap.size (fun k => k < w7.heap.size) v15 gn) ∧ Hid (Kd.R (Kd.int .i64) 3 wx w7.heap.size (fun _ => True) v17 gn) ∧ Hid (LP w wx p x b y bl gs1 rb g5 c5 gs1))
          case first =>
            by_cases h2 : bits BinOp.and IntKind.i64 op 7 = 2
            · have hdo : doesD p gs (Do.mk op who conn n) = ((wrongD gs who).1, [], (wrongD gs who).2) := by
                have hm2 : (Do.mk op who conn n).op7 = 2 := h2
                unfold doesD
                rw [if_pos hm2]
              have ex1 : Hid ((wrongD gs who).1 = gs1) := Lib.hid (by rw [← hgs1.out, hdo])
              have ex2 : Hid ((wrongD gs who).2 = er) := Lib.hid (by rw [← her.out, hdo])
              have ex3 : Hid (gn = []) := Lib.hid (by rw [← hgn.out, hdo])
              have E2 : (bits BinOp.and IntKind.i64 op 7 == 2) = true := by rw [h2]; rfl
              have E3 : (bits BinOp.and IntKind.i64 op 7 == 3) = false := by rw [h2]; rfl
              have E4 : (bits BinOp.and IntKind.i64 op 7 == 4) = false := by rw [h2]; rfl
              have E5 : (bits BinOp.and IntKind.i64 op 7 == 5) = false := by rw [h2]; rfl
              have E6 : (bits BinOp.and IntKind.i64 op 7 == 6) = false := by rw [h2]; rfl
              have E7 : (bits BinOp.and IntKind.i64 op 7 == 7) = false := by rw [h2]; rfl
              clear hdo h2
              go_wp2_with (first
                | (go_at_call 28; (with_reducible refine (rwrong_c J3.out.r GG.out who).mono ?_); rintro e w8 ⟨rfl, hdid⟩; rw [ex1.out] at hdid; rw [ex2.out]; have HDD := Lib.hid hdid))
              go_meet
              obtain ⟨g6, c6, hlp⟩ := J3.out.ref HDD.out
              exact ⟨g6, c6, rfl, Lib.hid (refrow' J3.out HDD.out R3.out), Lib.hid (by rw [ex3.out]; exact Kd.R_nil _ _ _ _ _), Lib.hid hlp⟩
            by_cases h3 : bits BinOp.and IntKind.i64 op 7 = 3
            · have hdo : doesD p gs (Do.mk op who conn n) = ((openD p gs who).1, [], (openD p gs who).2) := by
                have hm2 : (Do.mk op who conn n).op7 = 3 := h3
                unfold doesD
                rw [if_neg (by rw [hm2]; decide), if_pos (.inl hm2)]
              have ex1 : Hid ((openD p gs who).1 = gs1) := Lib.hid (by rw [← hgs1.out, hdo])
              have ex2 : Hid ((openD p gs who).2 = er) := Lib.hid (by rw [← her.out, hdo])
              have ex3 : Hid (gn = []) := Lib.hid (by rw [← hgn.out, hdo])
              have E2 : (bits BinOp.and IntKind.i64 op 7 == 2) = false := by rw [h3]; rfl
              have E3 : (bits BinOp.and IntKind.i64 op 7 == 3) = true := by rw [h3]; rfl
              have E4 : (bits BinOp.and IntKind.i64 op 7 == 4) = false := by rw [h3]; rfl
              have E5 : (bits BinOp.and IntKind.i64 op 7 == 5) = false := by rw [h3]; rfl
              have E6 : (bits BinOp.and IntKind.i64 op 7 == 6) = false := by rw [h3]; rfl
              have E7 : (bits BinOp.and IntKind.i64 op 7 == 7) = false := by rw [h3]; rfl
              clear hdo h3
              go_wp2_with (first
                | (go_at_call 29; (with_reducible refine (ropen_c J3.out.r GG.out who).mono ?_); rintro e w8 ⟨rfl, hdid⟩; rw [ex1.out] at hdid; rw [ex2.out]; have HDD := Lib.hid hdid))
              go_meet
              obtain ⟨g6, c6, hlp⟩ := J3.out.ref HDD.out
              exact ⟨g6, c6, rfl, Lib.hid (refrow' J3.out HDD.out R3.out), Lib.hid (by rw [ex3.out]; exact Kd.R_nil _ _ _ _ _), Lib.hid hlp⟩
            by_cases h4 : bits BinOp.and IntKind.i64 op 7 = 4
            · have hdo : doesD p gs (Do.mk op who conn n) = ((openD p gs who).1, [], (openD p gs who).2) := by
                have hm2 : (Do.mk op who conn n).op7 = 4 := h4
                unfold doesD
                rw [if_neg (by rw [hm2]; decide), if_pos (.inr hm2)]
              have ex1 : Hid ((openD p gs who).1 = gs1) := Lib.hid (by rw [← hgs1.out, hdo])
              have ex2 : Hid ((openD p gs who).2 = er) := Lib.hid (by rw [← her.out, hdo])
              have ex3 : Hid (gn = []) := Lib.hid (by rw [← hgn.out, hdo])
              have E2 : (bits BinOp.and IntKind.i64 op 7 == 2) = false := by rw [h4]; rfl
              have E3 : (bits BinOp.and IntKind.i64 op 7 == 3) = false := by rw [h4]; rfl
              have E4 : (bits BinOp.and IntKind.i64 op 7 == 4) = true := by rw [h4]; rfl
              have E5 : (bits BinOp.and IntKind.i64 op 7 == 5) = false := by rw [h4]; rfl
              have E6 : (bits BinOp.and IntKind.i64 op 7 == 6) = false := by rw [h4]; rfl
              have E7 : (bits BinOp.and IntKind.i64 op 7 == 7) = false := by rw [h4]; rfl
              clear hdo h4
              go_wp2_with (first
                | (go_at_call 29; (with_reducible refine (ropen_c J3.out.r GG.out who).mono ?_); rintro e w8 ⟨rfl, hdid⟩; rw [ex1.out] at hdid; rw [ex2.out]; have HDD := Lib.hid hdid))
              go_meet
              obtain ⟨g6, c6, hlp⟩ := J3.out.ref HDD.out
              exact ⟨g6, c6, rfl, Lib.hid (refrow' J3.out HDD.out R3.out), Lib.hid (by rw [ex3.out]; exact Kd.R_nil _ _ _ _ _), Lib.hid hlp⟩
            by_cases h5 : bits BinOp.and IntKind.i64 op 7 = 5
            · have hdo : doesD p gs (Do.mk op who conn n) = ((heardD gs who).1, [], (heardD gs who).2) := by
                have hm2 : (Do.mk op who conn n).op7 = 5 := h5
                unfold doesD
                rw [if_neg (by rw [hm2]; decide), if_neg (by rw [hm2]; decide), if_pos hm2]
              have ex1 : Hid ((heardD gs who).1 = gs1) := Lib.hid (by rw [← hgs1.out, hdo])
              have ex2 : Hid ((heardD gs who).2 = er) := Lib.hid (by rw [← her.out, hdo])
              have ex3 : Hid (gn = []) := Lib.hid (by rw [← hgn.out, hdo])
              have E2 : (bits BinOp.and IntKind.i64 op 7 == 2) = false := by rw [h5]; rfl
              have E3 : (bits BinOp.and IntKind.i64 op 7 == 3) = false := by rw [h5]; rfl
              have E4 : (bits BinOp.and IntKind.i64 op 7 == 4) = false := by rw [h5]; rfl
              have E5 : (bits BinOp.and IntKind.i64 op 7 == 5) = true := by rw [h5]; rfl
              have E6 : (bits BinOp.and IntKind.i64 op 7 == 6) = false := by rw [h5]; rfl
              have E7 : (bits BinOp.and IntKind.i64 op 7 == 7) = false := by rw [h5]; rfl
              clear hdo h5
              go_wp2_with (first
                | (go_at_call 30; (with_reducible refine (rheard_c J3.out.r GG.out who).mono ?_); rintro e w8 ⟨rfl, hdid⟩; rw [ex1.out] at hdid; rw [ex2.out]; have HDD := Lib.hid hdid))
              go_meet
              obtain ⟨g6, c6, hlp⟩ := J3.out.ref HDD.out
              exact ⟨g6, c6, rfl, Lib.hid (refrow' J3.out HDD.out R3.out), Lib.hid (by rw [ex3.out]; exact Kd.R_nil _ _ _ _ _), Lib.hid hlp⟩
            by_cases h6 : bits BinOp.and IntKind.i64 op 7 = 6
            · have hdo : doesD p gs (Do.mk op who conn n) = ((shutD gs who).1, [], (shutD gs who).2) := by
                have hm2 : (Do.mk op who conn n).op7 = 6 := h6
                unfold doesD
                rw [if_neg (by rw [hm2]; decide), if_neg (by rw [hm2]; decide), if_neg (by rw [hm2]; decide), if_pos hm2]
              have ex1 : Hid ((shutD gs who).1 = gs1) := Lib.hid (by rw [← hgs1.out, hdo])
              have ex2 : Hid ((shutD gs who).2 = er) := Lib.hid (by rw [← her.out, hdo])
              have ex3 : Hid (gn = []) := Lib.hid (by rw [← hgn.out, hdo])
              have E2 : (bits BinOp.and IntKind.i64 op 7 == 2) = false := by rw [h6]; rfl
              have E3 : (bits BinOp.and IntKind.i64 op 7 == 3) = false := by rw [h6]; rfl
              have E4 : (bits BinOp.and IntKind.i64 op 7 == 4) = false := by rw [h6]; rfl
              have E5 : (bits BinOp.and IntKind.i64 op 7 == 5) = false := by rw [h6]; rfl
              have E6 : (bits BinOp.and IntKind.i64 op 7 == 6) = true := by rw [h6]; rfl
              have E7 : (bits BinOp.and IntKind.i64 op 7 == 7) = false := by rw [h6]; rfl
              clear hdo h6
              go_wp2_with (first
                | (go_at_call 31; (with_reducible refine (rshut_c J3.out.r GG.out who).mono ?_); rintro e w8 ⟨rfl, hdid⟩; rw [ex1.out] at hdid; rw [ex2.out]; have HDD := Lib.hid hdid))
              go_meet
              obtain ⟨g6, c6, hlp⟩ := J3.out.ref HDD.out
              exact ⟨g6, c6, rfl, Lib.hid (refrow' J3.out HDD.out R3.out), Lib.hid (by rw [ex3.out]; exact Kd.R_nil _ _ _ _ _), Lib.hid hlp⟩
            by_cases h7 : bits BinOp.and IntKind.i64 op 7 = 7
            · have hle := (Do.mk op who conn n).times_le
              obtain ⟨N, hN⟩ : ∃ N : Nat, Hid ((Do.mk op who conn n).timesI = (N : Int)) := ⟨(Do.mk op who conn n).timesI.toNat, Lib.hid (by omega)⟩
              have hN25 : N ≤ 25 := by have := hN.out; omega
              have hdo : doesD p gs (Do.mk op who conn n) = ((tickN gs N).1, (tickN gs N).2, 0) := by
                have hm2 : (Do.mk op who conn n).op7 = 7 := h7
                unfold doesD
                rw [if_neg (by rw [hm2]; decide), if_neg (by rw [hm2]; decide), if_neg (by rw [hm2]; decide), if_neg (by rw [hm2]; decide), if_pos hm2, hN.out, Int.toNat_natCast]
              have ex1 : Hid ((tickN gs N).1 = gs1) := Lib.hid (by rw [← hgs1.out, hdo])
              have ex2 : Hid (er = 0) := Lib.hid (by rw [← her.out, hdo])
              have ex3 : Hid ((tickN gs N).2 = gn) := Lib.hid (by rw [← hgn.out, hdo])
              have E2 : (bits BinOp.and IntKind.i64 op 7 == 2) = false := by rw [h7]; rfl
              have E3 : (bits BinOp.and IntKind.i64 op 7 == 3) = false := by rw [h7]; rfl
              have E4 : (bits BinOp.and IntKind.i64 op 7 == 4) = false := by rw [h7]; rfl
              have E5 : (bits BinOp.and IntKind.i64 op 7 == 5) = false := by rw [h7]; rfl
              have E6 : (bits BinOp.and IntKind.i64 op 7 == 6) = false := by rw [h7]; rfl
              have E7 : (bits BinOp.and IntKind.i64 op 7 == 7) = true := by rw [h7]; rfl
              have hT : ∀ w : World, Calls Try.prog 32 #[.agg #[.int .i64 op, .int .i64 who, .int .i64 conn, .int .i64 n]] w fun e w' => e = .returned (.int .i64 N) ∧ Below w.heap.size w w' := fun w => sealskinlaw18_Do_times.calls op who conn n N w (congrArg some hN.out)
              have HT := Lib.hid hT
              clear hT hdo hle h7
              go_wp2_with (first
                | (go_at_call 32; (with_reducible refine (HT.out _).mono ?_); rintro e w8 ⟨rfl, hbb⟩; have J4 := Lib.hid (J3.out.below hbb); have R4 := Lib.hid (Kd.R_below R3.out hbb); have S4 : Hid (w7.heap.size ≤ w8.heap.size) := Lib.hid hbb.size))
              go_loopw [17, 131] (fun v i wr2 => ∃ (k g5 c5 : Nat), k ≤ N ∧ i = .int .i64 k ∧ Hid (Kd.R (Kd.int .i64) 3 wr2 w6.heap.size (fun k => k < w7.heap.size) v15 gn) ∧ Hid (Kd.R (Kd.int .i64) 3 wr2 w7.heap.size (fun _ => True) v (tickN gs k).2) ∧ Hid (LP w wr2 p x b y bl gs1 rb g5 c5 (tickN gs k).1) ∧ Hid (w7.heap.size ≤ wr2.heap.size)) (fun _ i _ => N - (intOf i).toNat)
              case atStart => exact ⟨0, g, c2, Nat.zero_le _, rfl, R4, Lib.hid (Kd.R_nil _ _ _ _ _), J4, S4⟩
              case round =>
                obtain ⟨k, g5, c5, hk, rfl, RA, RB, K, SZ⟩ := hrel
                by_cases hlt2 : k < N
                · have hgk := Lib.hid (tickN_good GG.out k)
                  have hlen := tickN_len GG.out k
                  go_wp2_with (first
                    | (go_at_call 33; (with_reducible refine (rtick_c K.out.r hgk.out).mono ?_); rintro e w9 ⟨v, rfl, hR, hdid⟩; obtain ⟨A9, c9, rfl, hc9, hC9⟩ := Kd.R_reads hR; have RB2 := Lib.hid (K.out.refrow hdid RB.out); have RA2 := Lib.hid (refrow' K.out hdid RA.out); have SZ2 : Hid (w7.heap.size ≤ w9.heap.size) := Lib.hid (Nat.le_trans SZ.out (by obtain ⟨g', c', h1, ho⟩ := hdid; exact (ho.bel 0 (Nat.zero_le _) (Nat.zero_le _)).size)); obtain ⟨g6, c6, hlp⟩ := K.out.ref hdid; have K2 := Lib.hid hlp)
                    | ((with_reducible refine gate_builtin (b := .append) (xs := #[.tmp 133, .tmp 135]) rfl ?_); at_builtin; refine Hid.out ?_))
                  refine Lib.hid ?_
                  refine Kd.R_append_rows (Kd.int .i64) (w0 := ?aW) w7.heap.size rfl (.tmp 133) (.tmp 135) 37 3 (.int .i64 0) 8 rfl Try.underlying37 (by kernel_rfl) rfl (by decide) (by omega) u17 (tickN gs k).2 (goneD (tickN gs k).1) A9 (goneD (tickN gs k).1).length c9 (fun _ => True) (fun _ => False) rfl rfl ?aO (rows_of hC9) K_M_int (fun _ hk => hk.elim) (fun _ _ => trivial) ?aB ?aS ?aL ?_
                  case aO => exact RB2.out
                  case aB => exact Below.refl _ _
                  case aS => exact SZ2.out
                  case aL =>
                    have h1 := goneK_len (tickN gs k).1 (tickN gs k).1.length
                    have h2 := hgk.out.n8
                    simp only [goneD]
                    omega
                  intro v1 w1 hor hb hgr hat
                  go_wp2
                  go_roundw
                  case rel => exact ⟨k + 1, g6, c6, by omega, by go_num, Lib.hid (R_apart RA2.out RB2.out hgr), Lib.hid hor, Lib.hid (K2.out.grown RB2.out hgr (Nat.le_trans J3.out.q.b.size (Nat.le_refl _)) SZ2.out), Lib.hid (Nat.le_trans SZ2.out hgr.size)⟩
                  case measure => simp [intOf]; omega
                · have hkl : k = N := by omega
                  subst hkl
                  go_wp2
                  go_meet
                  exact ⟨g5, c5, by rw [ex2.out], RA, Lib.hid (by rw [← ex3.out]; exact RB.out), Lib.hid (by have := K.out; rwa [ex1.out] at this)⟩
            · have hdo : doesD p gs (Do.mk op who conn n) = ((beginD gs who conn).1, [], (beginD gs who conn).2) := by
                unfold doesD
                unfold Do.op7
                rw [if_neg h2, if_neg (by rintro (h | h); exact h3 h; exact h4 h), if_neg h5, if_neg h6, if_neg h7]
              have ex1 : Hid ((beginD gs who conn).1 = gs1) := Lib.hid (by rw [← hgs1.out, hdo])
              have ex2 : Hid ((beginD gs who conn).2 = er) := Lib.hid (by rw [← her.out, hdo])
              have ex3 : Hid (gn = []) := Lib.hid (by rw [← hgn.out, hdo])
              have E2 : (bits BinOp.and IntKind.i64 op 7 == 2) = false := by simpa using h2
              have E3 : (bits BinOp.and IntKind.i64 op 7 == 3) = false := by simpa using h3
              have E4 : (bits BinOp.and IntKind.i64 op 7 == 4) = false := by simpa using h4
              have E5 : (bits BinOp.and IntKind.i64 op 7 == 5) = false := by simpa using h5
              have E6 : (bits BinOp.and IntKind.i64 op 7 == 6) = false := by simpa using h6
              have E7 : (bits BinOp.and IntKind.i64 op 7 == 7) = false := by simpa using h7
              clear hdo h2 h3 h4 h5 h6 h7
              go_wp2_with (first
                | (go_at_call 34; (with_reducible refine (rbegin_c J3.out.r GG.out who conn).mono ?_); rintro e w8 ⟨rfl, hdid⟩; rw [ex1.out] at hdid; rw [ex2.out]; have HDD := Lib.hid hdid))
              go_meet
              obtain ⟨g6, c6, hlp⟩ := J3.out.ref HDD.out
              exact ⟨g6, c6, rfl, Lib.hid (refrow' J3.out HDD.out R3.out), Lib.hid (by rw [ex3.out]; exact Kd.R_nil _ _ _ _ _), Lib.hid hlp⟩
          case rest =>
            obtain ⟨g5, c5, rfl, RA, RB, K0⟩ := hcut
            obtain ⟨A15, c15, rfl, m15, C15⟩ := Kd.R_reads RA.out
            obtain ⟨A17, c17, rfl, m17, C17⟩ := Kd.R_reads RB.out
            have hgnl : gn.length ≤ 1000 := by
              rw [← hgn.out]
              exact doesD_len GG.out _
            have hne0 : (er != er) = false := by simp
            go_wp2_with (first
              | (go_at_call 35; (with_reducible refine (equal_c (l := gn) (m := gn) C15 m15 C17 m17 hgnl (r := true) (Lib.hid (decide_eq_true rfl))).mono ?_); rintro e w8 ⟨rfl, hb⟩; have K := Lib.hid (K0.out.below hb); obtain ⟨f0, f1, f2, f3⟩ := boxed4 K.out.r.d))
            have hg8 : gs1.length ≤ 8 := GG1.out.n8
            go_loopw [152] (fun i wr2 => ∃ u : Nat, u ≤ gs1.length ∧ i = .int .i64 u ∧ Hid (LP w wr2 p x b y bl gs1 rb g5 c5 gs1)) (fun i _ => gs1.length - (intOf i).toNat)
            case atStart => exact ⟨0, by omega, rfl, K⟩
            case round =>
              obtain ⟨u, hu, rfl, M⟩ := hrel
              by_cases hltu : u < gs1.length
              · obtain ⟨m0, m1, m2, m3, m4⟩ := M.out.r.guest u hltu
                obtain ⟨q, hq⟩ : ∃ q, Hid (gs1.getD u g0 = q) := ⟨_, Lib.hid rfl⟩
                rw [hq.out] at m0 m1 m2 m3 m4
                have zg := M.out.r.r.lt
                have hst : Hid (stateD gs1 u = (q.conn, q.opn)) := Lib.hid (by rw [state_at gs1 u hltu, hq.out])
                have hlk : Hid (lockedD gs1 u = q.locked) := Lib.hid (by rw [locked_at gs1 u hltu, hq.out])
                have M0 := Lib.hid (M.out.below (below_alloc (Below.refl _ _) (.cells #[.int .i64 q.conn, .bool q.opn, .int .i64 q.silent, .int .i64 q.wrong, .int .i64 q.locked] 73)))
                go_upto_region 41 with (first
                  | (go_at_call 16; (with_reducible refine (state_e M0.out.d GG1.out u hst.out).mono ?_); rintro e w8' ⟨rfl, hb8⟩; have K1 := Lib.hid ((M0.out.below hb8).drewn); have hbx := drew_blk (keep_blk hb8 (new_blk wr (.cells #[.int .i64 q.conn, .bool q.opn, .int .i64 q.silent, .int .i64 q.wrong, .int .i64 q.locked] 73))); obtain ⟨k0, k1, k2, k3, k4⟩ := boxed5 hbx))
                refine start_ (n := 18) (S := fun w' => w'.cell? ⟨wr.heap.size, 0, none⟩ = some (.int .i64 q.conn) ∧ w'.cell? ⟨wr.heap.size, 1, none⟩ = some (.bool q.opn) ∧ w'.cell? ⟨wr.heap.size, 4, none⟩ = some (.int .i64 q.locked)) (ds := []) #[false, false, false, false, false, false, false, false, false, false, false, false, false, false, false, false, false, false] (by kernel_rfl) rfl rfl ⟨k0, k1, k4⟩ (fun hHeld => ?_)
                refine pure_ (i := 0) (N := some 163) (v := ?_) (a' := ?_) #[true, false, false, false, false, false, false, false, false, false, false, false, false, false, false, false, false, false] rfl rfl (by kernel_rfl) (fun _ _ _ h => h) (Or.inl ⟨by rfl, ?_⟩) ?_ ?_
                rotate_left
                · intro w'
                  go_simp
                  with_reducible rfl
                rotate_left
                · simp only [Act.put, List.setIfInBounds_toArray, List.set_cons_zero, List.set_cons_succ, i64_w, i32_w]
                  rfl
                refine pure_ (i := 1) (N := some 164) (v := ?_) (a' := ?_) #[true, true, false, false, false, false, false, false, false, false, false, false, false, false, false, false, false, false] rfl rfl (by kernel_rfl) (fun _ _ _ h => h) (Or.inl ⟨by rfl, ?_⟩) ?_ ?_
                rotate_left
                · intro w'
                  go_simp
                  with_reducible rfl
                rotate_left
                · simp only [Act.put, List.setIfInBounds_toArray, List.set_cons_zero, List.set_cons_succ, i64_w, i32_w]
                  rfl
                refine take_ (i := 2) (N := some 165) (v := ?_) (a' := ?_) #[true, true, true, false, false, false, false, false, false, false, false, false, false, false, false, false, false, false] rfl rfl (by kernel_rfl) (fun _ _ _ h => h) (Or.inl ⟨by rfl, ?_⟩) hHeld ?_ ?_
                rotate_left
                · rintro w' ⟨s0, s1, s2⟩
                  go_simp
                  with_reducible rfl
                rotate_left
                · simp only [Act.put, List.setIfInBounds_toArray, List.set_cons_zero, List.set_cons_succ, i64_w, i32_w]
                  rfl
                refine pure_ (i := 3) (N := some 166) (v := ?_) (a' := ?_) #[true, true, true, true, false, false, false, false, false, false, false, false, false, false, false, false, false, false] rfl rfl (by kernel_rfl) (fun _ _ _ h => h) (Or.inl ⟨by rfl, ?_⟩) ?_ ?_
                rotate_left
                · intro w'
                  go_simp
                  with_reducible rfl
                rotate_left
                · simp only [Act.put, List.setIfInBounds_toArray, List.set_cons_zero, List.set_cons_succ, i64_w, i32_w]
                  rfl
                refine pure_ (i := 4) (N := some 167) (v := ?_) (a' := ?_) #[true, true, true, true, true, false, false, false, false, false, false, false, false, false, false, false, false, false] rfl rfl (by kernel_rfl) (fun _ _ _ h => h) (Or.inl ⟨by rfl, ?_⟩) ?_ ?_
                rotate_left
                · intro w'
                  go_simp
                  with_reducible rfl
                rotate_left
                · simp only [Act.put, List.setIfInBounds_toArray, List.set_cons_zero, List.set_cons_succ, i64_w, i32_w]
                  rfl
                refine pure_ (i := 5) (N := some 168) (v := ?_) (a' := ?_) #[true, true, true, true, true, true, false, false, false, false, false, false, false, false, false, false, false, false] rfl rfl (by kernel_rfl) (fun _ _ _ h => h) (Or.inl ⟨by rfl, ?_⟩) ?_ ?_
                rotate_left
                · intro w'
                  go_simp
                  with_reducible rfl
                rotate_left
                · simp only [Act.put, List.setIfInBounds_toArray, List.set_cons_zero, List.set_cons_succ, i64_w, i32_w]
                  rfl
                refine pure_ (i := 6) (N := some 169) (v := ?_) (a' := ?_) #[true, true, true, true, true, true, true, false, false, false, false, false, false, false, false, false, false, false] rfl rfl (by kernel_rfl) (fun _ _ _ h => h) (Or.inl ⟨by rfl, ?_⟩) ?_ ?_
                rotate_left
                · intro w'
                  go_simp
                  with_reducible rfl
                rotate_left
                · simp only [Act.put, List.setIfInBounds_toArray, List.set_cons_zero, List.set_cons_succ, i64_w, i32_w]
                  rfl
                refine take_ (i := 7) (N := some 170) (v := ?_) (a' := ?_) #[true, true, true, true, true, true, true, true, false, false, false, false, false, false, false, false, false, false] rfl rfl (by kernel_rfl) (fun _ _ _ h => h) (Or.inl ⟨by rfl, ?_⟩) hHeld ?_ ?_
                rotate_left
                · rintro w' ⟨s0, s1, s2⟩
                  go_simp
                  with_reducible rfl
                rotate_left
                · simp only [Act.put, List.setIfInBounds_toArray, List.set_cons_zero, List.set_cons_succ, i64_w, i32_w]
                  rfl
                refine pure_ (i := 8) (N := some 171) (v := ?_) (a' := ?_) #[true, true, true, true, true, true, true, true, true, false, false, false, false, false, false, false, false, false] rfl rfl (by kernel_rfl) (fun _ _ _ h => h) (Or.inl ⟨by rfl, ?_⟩) ?_ ?_
                rotate_left
                · intro w'
                  go_simp
                  with_reducible rfl
                rotate_left
                · simp only [Act.put, List.setIfInBounds_toArray, List.set_cons_zero, List.set_cons_succ, i64_w, i32_w]
                  rfl
                refine pure_ (i := 9) (N := some 172) (v := ?_) (a' := ?_) #[true, true, true, true, true, true, true, true, true, true, false, false, false, false, false, false, false, false] rfl rfl (by kernel_rfl) (fun _ _ _ h => h) (Or.inl ⟨by rfl, ?_⟩) ?_ ?_
                rotate_left
                · intro w'
                  go_simp
                  with_reducible rfl
                rotate_left
                · simp only [Act.put, List.setIfInBounds_toArray, List.set_cons_zero, List.set_cons_succ, i64_w, i32_w]
                  rfl
                refine pure_ (i := 10) (N := some 173) (v := ?_) (a' := ?_) #[true, true, true, true, true, true, true, true, true, true, true, false, false, false, false, false, false, false] rfl rfl (by kernel_rfl) (fun _ _ _ h => h) (Or.inl ⟨by rfl, ?_⟩) ?_ ?_
                rotate_left
                · intro w'
                  go_simp
                  with_reducible rfl
                rotate_left
                · simp only [Act.put, List.setIfInBounds_toArray, List.set_cons_zero, List.set_cons_succ, i64_w, i32_w]
                  rfl
                refine pure_ (i := 11) (N := some 174) (v := ?_) (a' := ?_) #[true, true, true, true, true, true, true, true, true, true, true, true, false, false, false, false, false, false] rfl rfl (by kernel_rfl) (fun _ _ _ h => h) (Or.inl ⟨by rfl, ?_⟩) ?_ ?_
                rotate_left
                · intro w'
                  go_simp
                  with_reducible rfl
                rotate_left
                · simp only [Act.put, List.setIfInBounds_toArray, List.set_cons_zero, List.set_cons_succ, i64_w, i32_w]
                  rfl
                refine pure_ (i := 12) (N := some 175) (v := ?_) (a' := ?_) #[true, true, true, true, true, true, true, true, true, true, true, true, true, false, false, false, false, false] rfl rfl (by kernel_rfl) (fun _ _ _ h => h) (Or.inl ⟨by rfl, ?_⟩) ?_ ?_
                rotate_left
                · intro w'
                  go_simp
                  with_reducible rfl
                rotate_left
                · simp only [Act.put, List.setIfInBounds_toArray, List.set_cons_zero, List.set_cons_succ, i64_w, i32_w]
                  rfl
                refine pure_ (i := 14) (N := some 177) (v := ?_) (a' := ?_) #[true, true, true, true, true, true, true, true, true, true, true, true, true, false, true, false, false, false] rfl rfl (by kernel_rfl) (fun _ _ _ h => h) (Or.inl ⟨by rfl, ?_⟩) ?_ ?_
                rotate_left
                · intro w'
                  go_simp
                  with_reducible rfl
                rotate_left
                · simp only [Act.put, List.setIfInBounds_toArray, List.set_cons_zero, List.set_cons_succ, i64_w, i32_w]
                  rfl
                refine take_ (i := 15) (N := some 178) (v := ?_) (a' := ?_) #[true, true, true, true, true, true, true, true, true, true, true, true, true, false, true, true, false, false] rfl rfl (by kernel_rfl) (fun _ _ _ h => h) (Or.inl ⟨by rfl, ?_⟩) hHeld ?_ ?_
                rotate_left
                · rintro w' ⟨s0, s1, s2⟩
                  go_simp
                  with_reducible rfl
                rotate_left
                · simp only [Act.put, List.setIfInBounds_toArray, List.set_cons_zero, List.set_cons_succ, i64_w, i32_w]
                  rfl
                refine one_ (i := 13) (N := some 176) #[true, true, true, true, true, true, true, true, true, true, true, true, true, true, true, true, false, false] rfl rfl (by kernel_rfl) (by decide) (fun K hK => ?_)
                refine goes_ Try.func17 (by kernel_rfl) rfl #[.pointer (some ⟨b, 0, none⟩), .int .i64 u] (by rfl) rfl rfl (by first | rfl | (simp only [List.map_toArray, List.map_cons, List.map_nil]; done) | (simp only [List.map_toArray, List.map_cons, List.map_nil]; rfl)) ?_
                with_reducible refine (locked_e K1.out.d GG1.out u hlk.out).mono ?_
                rintro e w9 ⟨rfl, hb9⟩
                refine ⟨_, rfl, ?_⟩
                have K2 := Lib.hid (K1.out.below hb9)
                refine hK.out _ _ ⟨(keep_cell hb9 k0), (keep_cell hb9 k1), (keep_cell hb9 k4)⟩ (fun hHeld => ?_)
                clear hK K
                refine norm_ (a' := ?_) ?_ ?_
                rotate_left
                · show Act.put _ (some 176) _ = _
                  simp only [Act.put, List.setIfInBounds_toArray, List.set_cons_zero, List.set_cons_succ, i64_w, i32_w]
                  rfl
                refine pure_ (i := 16) (N := some 179) (v := ?_) (a' := ?_) #[true, true, true, true, true, true, true, true, true, true, true, true, true, true, true, true, true, false] rfl rfl (by kernel_rfl) (fun _ _ _ h => h) (Or.inl ⟨by rfl, ?_⟩) ?_ ?_
                rotate_left
                · intro w'
                  go_simp
                  with_reducible rfl
                rotate_left
                · simp only [Act.put, List.setIfInBounds_toArray, List.set_cons_zero, List.set_cons_succ, i64_w, i32_w]
                  rfl
                refine pure_ (i := 17) (N := some 180) (v := ?_) (a' := ?_) #[true, true, true, true, true, true, true, true, true, true, true, true, true, true, true, true, true, true] rfl rfl (by kernel_rfl) (fun _ _ _ h => h) (Or.inl ⟨by rfl, ?_⟩) ?_ ?_
                rotate_left
                · intro w'
                  go_simp
                  with_reducible rfl
                rotate_left
                · simp only [Act.put, List.setIfInBounds_toArray, List.set_cons_zero, List.set_cons_succ, i64_w, i32_w]
                  rfl
                refine done_ (by kernel_rfl) ?_
                go_wp2
                go_roundw
                case rel => exact ⟨u + 1, by omega, by go_num, K2⟩
                case measure => simp [intOf]; omega
              · have hul : u = gs1.length := by omega
                subst hul
                obtain ⟨n0, n1, n2⟩ := M.out.q.cells
                have hls : p.ls.length ≤ 32 := hR.out.1.2.1
                go_wp2
                go_loopw [185] (fun i wr3 => ∃ v : Nat, v ≤ p.ls.length ∧ i = .int .i64 v ∧ Hid (LP w wr3 p x b y bl gs1 rb g5 c5 gs1)) (fun i _ => p.ls.length - (intOf i).toNat)
                case atStart => exact ⟨0, by omega, rfl, M⟩
                case round =>
                  obtain ⟨v, hv, rfl, P⟩ := hrel
                  by_cases hltv : v < p.ls.length
                  · obtain ⟨sn, hsn⟩ : ∃ sn, Hid (seatsN p gs1 v gs1.length = sn) := ⟨_, Lib.hid rfl⟩
                    go_wp2_with (first
                      | (go_at_call 36; (with_reducible refine (rseats_n P1.out.r GG1.out.n8 GG1.out.l v hsn).mono ?_); rintro e w9 ⟨rfl, hb⟩; have P2 := Lib.hid (P1.out.below hb))
                      | (go_at_call 15; (with_reducible refine (seats_n P.out.d GG1.out.n8 GG1.out.l v hsn).mono ?_); rintro e w8 ⟨rfl, hb⟩; have P1 := Lib.hid (P.out.below hb)))
                    go_roundw
                    case rel => exact ⟨v + 1, by omega, by go_num, P2⟩
                    case measure => simp [intOf]; omega
                  · have hvl : v = p.ls.length := by omega
                    subst hvl
                    go_wp2
                    go_roundg (l.length - (j + 1))
                    case measure => omega
                    case rel => exact ⟨j + 1, g5, c5, gs1, by omega, by omega, by go_num, P, GG1⟩
        · have hjl : j = l.length := by omega
          subst hjl
          go_wp2_with (first
            | (go_at_call 12; (with_reducible refine (awake_c _).mono ?_); rintro e w9 ⟨rfl, hb9⟩; have K3 := Lib.hid (J.out.below hb9)))
          go_ret
          exact ⟨rfl, K3.out.q.b⟩
    · have HRV := Lib.hid hrv
      clear hrv
      go_enter Try.func8, Try.ntmps8
      obtain ⟨q0, q1, q2⟩ := Q.out.cells
      go_wp2_with (first
        | (go_at_call 10; (with_reducible refine (light_c Q.out true hlt).mono ?_); rintro e w1 ⟨rfl, hb1⟩; have Q1 := Lib.hid (Q.out.below hb1); obtain ⟨r0, r1, r2⟩ := Q1.out.cells)
        | (go_at_call 13; (with_reducible refine (new_no Q1.out.i HRV).mono ?_); rintro e w2 ⟨rfl, hb2⟩; have Q2 := Lib.hid (Q1.out.below hb2); obtain ⟨s0, s1, s2⟩ := Q2.out.cells)
        | (go_at_call 26; (with_reducible refine (rnew_no Q2.out.i HRV).mono ?_); rintro e w3 ⟨rfl, hb3⟩; have Q3 := Lib.hid (Q2.out.below hb3))
        | (go_at_call 12; (with_reducible refine (awake_c _).mono ?_); rintro e w4 ⟨rfl, hb4⟩; have Q4 := Lib.hid (Q3.out.below hb4)))
      go_ret
      exact ⟨rfl, Q4.out.b⟩
  · go_enter Try.func8, Try.ntmps8
    obtain ⟨q0, q1, q2⟩ := Q.out.cells
    have E3 : decide ((300 : Int) < (l.length : Int)) = true := decide_eq_true (by omega)
    go_wp2_with (first
      | (go_at_call 10; (with_reducible refine (light_c Q.out true hlt).mono ?_); rintro e w1 ⟨rfl, hb1⟩; have Q1 := Lib.hid (Q.out.below hb1); obtain ⟨r0, r1, r2⟩ := Q1.out.cells)
      | (go_at_call 12; (with_reducible refine (awake_c _).mono ?_); rintro e w2 ⟨rfl, hb2⟩; have Q2 := Lib.hid (Q1.out.below hb2)))
    go_ret
    exact ⟨rfl, Q2.out.b⟩
theorem plays_row (w : World) (cs : Array Value) (p : Pol) (hp : kPol.K w p (Value.agg cs).cells.toList) (g : gp p) (A : Option Addr) (c : Nat) (l : List Do) (hc : l.length ≤ c) (hA : Kd.C k36 w A l.length l) (gl : l.length ≤ maxLen ∧ ∀ x ∈ l, gDo x) : Calls Try.prog 8 #[.agg cs, .slice A l.length c] w fun e w' => e = .returned (.bool true) ∧ Below w.heap.size w w' := by
  obtain ⟨x, hx, rfl⟩ := opPol hp
  exact plays_walk w p x hx A c l hA hc
end Go.Proofs.Ytkfjolhlnhbgjaa.D
