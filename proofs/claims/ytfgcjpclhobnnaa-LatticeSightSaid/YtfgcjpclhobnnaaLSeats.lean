/- The law LatticeSeats walked: its call answers true, whatever policy it is given. Conditions: its labels are well formed. -/
import Derived.Test.YtfgcjpclhobnnaaLPol
import Derived.Test.YtfgcjpclhobnnaaPx11
namespace Go.Proofs.Ytfgcjpclhobnnaa.L
open Go.RowKit Go.Proofs.Ytfgcjpclhobnnaa.P Go.Proofs.YtfgcjpclhobnnaaBase Go.Proofs.YtfgcjpclhobnnaaW.PrintWords Go.Proofs.Ytfgcjpclhobnnaa.J Go.Proofs.Ytfgcjpclhobnnaa.Q
set_option linter.unusedVariables false
set_option linter.unusedSimpArgs false

/-- where a label stands: its first place, or none -/
theorem at_f (p : Pol) (y : S24) (hn : p.ls.length ≤ 200) : (∃ j : Nat, j < p.ls.length ∧ p.ls[j]? = some y ∧ y ∉ p.ls.take j ∧ lattice_At.f 1000 p.ls p.qs p.es y.f0 y.f1 = some ((j : Int), true)) ∨ (y ∉ p.ls ∧ lattice_At.f 1000 p.ls p.qs p.es y.f0 y.f1 = some (0, false)) := by
  unfold lattice_At.f api_Label_46.f
  rcases indexL_l0 p.ls y (by omega) p.ls.length 1000 0 (by omega) (by omega) (by simp) with ⟨j, h1, h2, h3, h4⟩ | ⟨h1, h2⟩
  · refine .inl ⟨j, h1, h2, h3, ?_⟩
    have h4' : api_Label_46.l0 1000 p.ls (p.ls.length : Int) 0 y.f0 y.f1 = some (j : Int) := h4
    rw [h4']
    simp [mx]
    omega
  · refine .inr ⟨h1, ?_⟩
    have h2' : api_Label_46.l0 1000 p.ls (p.ls.length : Int) 0 y.f0 y.f1 = some (-1) := h2
    rw [h2']
    simp [mx]
theorem be_loop (b : ByteArray) (i : Nat) (r : List UInt8) (h : r ≠ []) : ByteArray.toList.loop b i r ≠ [] := by
  fun_induction ByteArray.toList.loop b i r with
  | case1 i r hi ih => exact ih (by simp)
  | case2 i r hi => simpa using h
theorem be (b : ByteArray) (h : 1 ≤ b.size) : b.toList.isEmpty = false := by
  have : b.toList ≠ [] := by
    unfold ByteArray.toList ByteArray.toList.loop
    rw [if_pos (by omega)]
    exact be_loop _ _ _ (by simp)
  cases e : b.toList
  · exact absurd e this
  · rfl
/-- a label of a policy that may be stands at its own place -/
theorem at_own (p : Pol) (k : Nat) (hk : k < p.ls.length) (h : RightP (p.ls, p.qs, p.es)) : lattice_At.f 1000 p.ls p.qs p.es (p.ls.getD k z24).f0 (p.ls.getD k z24).f1 = some ((k : Int), true) := by
  have h32 : p.ls.length ≤ 32 := h.1.2.1
  have hg : p.ls.getD k z24 = p.ls[k] := by simp [hk]
  have hd : p.ls.getD k z24 ∉ p.ls.take k := (h.2.1 k hk).2.1
  have gk : p.ls[k]? = some (p.ls.getD k z24) := by rw [hg]; exact List.getElem?_eq_getElem hk
  rcases at_f p (p.ls.getD k z24) (by omega) with ⟨j, h1, h2, h3, h4⟩ | ⟨h1, h2⟩
  · have hjk : j = k := by
      rcases Nat.lt_trichotomy j k with hlt | heq | hgt
      · exfalso; refine hd (List.mem_of_getElem? (i := j) ?_)
        rw [List.getElem?_take, if_pos hlt]; exact h2
      · exact heq
      · exfalso; refine h3 (List.mem_of_getElem? (i := k) ?_)
        rw [List.getElem?_take, if_pos hgt]; exact gk
    rw [h4, hjk]
  · exact absurd (List.mem_of_getElem? gk) h1
theorem at_c {w : World} {p : Pol} {x : PAt} {W : World} (h : PQ w p x W) (k : Nat) (hk : k < p.ls.length) (hR : Hid (RightP (p.ls, p.qs, p.es))) (y : S24) (hy : Hid (y = p.ls.getD k z24)) : Calls Try.prog 34 #[.agg #[.slice x.A0 p.ls.length x.c0, .slice x.A1 p.qs.length x.c1, .slice x.A2 p.es.length x.c2], .agg #[.int .i64 y.f0, .int .u32 y.f1]] W fun e w' => e = .returned (.tuple #[.int .i64 k, .bool true]) ∧ Below W.heap.size W w' :=
  lattice_At.calls 1000 _ _ _ _ _ _ _ _ _ _ _ _ _ _ h.i.h0 h.i.m0 h.i.h1 h.i.m1 h.i.h2 h.i.m2 (by rw [hy.out]; exact at_own p k hk hR.out)
theorem at42 {w wr : World} {A : Option Addr} {l : List S42} (hr : Kd.C k42 w A l.length l) (hB : Below w.heap.size w wr) (k : Nat) (hk : k < l.length) :
    ∃ ad, A = some ad ∧ wr.cell? ⟨(ad.add (k * 3)).block, (ad.add (k * 3)).off + 2, none⟩ = some (.int .i64 (l.getD k z42).f2) := by
  obtain ⟨ad, e, h0, h1, h2⟩ := at_T42 hr k (by omega) (by omega)
  simp only [rd_T42, Int.toNat_natCast] at h0 h1 h2
  exact ⟨ad, e, (hB.cell (World.block_lt_of_cell? w _ h2)).trans h2⟩
theorem at45 {w wr : World} {A : Option Addr} {l : List S45} (hr : Kd.C k45 w A l.length l) (hB : Below w.heap.size w wr) (k : Nat) (hk : k < l.length) :
    ∃ ad, A = some ad ∧ wr.cell? (ad.add (k * 3)) = some (.int .i64 (l.getD k z45).f0) ∧ wr.cell? ⟨(ad.add (k * 3)).block, (ad.add (k * 3)).off + 1, none⟩ = some (.string (l.getD k z45).f1) ∧ wr.cell? ⟨(ad.add (k * 3)).block, (ad.add (k * 3)).off + 2, none⟩ = some (.bool (l.getD k z45).f2) := by
  obtain ⟨ad, e, h0, h1, h2⟩ := at_T45 hr k (by omega) (by omega)
  simp only [rd_T45, Int.toNat_natCast] at h0 h1 h2
  exact ⟨ad, e, (hB.cell (World.block_lt_of_cell? w _ h0)).trans h0, (hB.cell (World.block_lt_of_cell? w _ h1)).trans h1, (hB.cell (World.block_lt_of_cell? w _ h2)).trans h2⟩
theorem right_zero {ls : List S24} {qs : List S42} {es : List S45} (h : rightV ls qs es = 0) : RightP (ls, qs, es) := by
  unfold rightV at h
  split at h
  · assumption
  · omega
theorem right_two (ls : List S24) (qs : List S42) (es : List S45) : rightV ls qs es = 0 ∨ rightV ls qs es = 11 := by
  unfold rightV
  split
  · exact .inl rfl
  · exact .inr rfl
theorem see_own (p : Pol) (hg : gp p) {y : S45} (hE : entOk p.ls.length y) : seesB p.ls y.f0 y.f0 = true := seesB_self hg.1.2 hE.1 hE.2.1
set_option maxHeartbeats 4000000 in
theorem seats_walk (w : World) (p : Pol) (x : PAt) (hp : PIn w p x) (hg : gp p) : Calls Try.prog 11 #[.agg #[.slice x.A0 p.ls.length x.c0, .slice x.A1 p.qs.length x.c1, .slice x.A2 p.es.length x.c2]] w fun e w' => e = .returned (.bool true) ∧ Below w.heap.size w w' := by
  obtain ⟨rl, hl⟩ := long_some p
  have Hl := Lib.hid hl
  have hG := Lib.hid hg
  clear hg
  have H2 := right_two p.ls p.qs p.es
  clear hl
  have HP := Lib.hid hp
  clear hp
  cases rl
  case true =>
    clear H2
    go_enter Try.func11, Try.ntmps11
    go_wp2_with fail
    refine calls_box HP.out ?_
    intro W Q
    go_wp2_with (first
      | (go_at_call 20; (with_reducible refine (long_c Q _ Hl).mono ?_); rintro e w2 ⟨rfl, hbb⟩; replace Q := Q.below hbb; clear hbb)
      | (go_at_call 17; (with_reducible refine (awake_true _).mono ?_); rintro e w2 ⟨rfl, hbb⟩; replace Q := Q.below hbb; clear hbb))
    go_ret
    exact ⟨rfl, Q.b⟩
  case false =>
  rcases H2 with hr | hr
  case inr =>
    have Hr := Lib.hid hr
    clear hr
    go_enter Try.func11, Try.ntmps11
    go_wp2_with fail
    refine calls_box HP.out ?_
    intro W Q
    go_wp2_with (first
      | (go_at_call 20; (with_reducible refine (long_c Q _ Hl).mono ?_); rintro e w2 ⟨rfl, hbb⟩; replace Q := Q.below hbb; clear hbb; have C := Q.cells)
      | (go_at_call 32; (with_reducible refine (right_c Q _ Hr).mono ?_); rintro e w2 ⟨rfl, hbb⟩; replace Q := Q.below hbb; clear hbb)
      | (go_at_call 17; (with_reducible refine (awake_true _).mono ?_); rintro e w2 ⟨rfl, hbb⟩; replace Q := Q.below hbb; clear hbb))
    go_ret
    exact ⟨rfl, Q.b⟩
  case inl =>
    have HR := Lib.hid (right_zero hr)
    have Hr := Lib.hid hr
    clear hr
    go_enter Try.func11, Try.ntmps11
    go_wp2_with fail
    refine calls_box HP.out ?_
    intro W Q
    go_wp2_with (first
      | (go_at_call 20; (with_reducible refine (long_c Q _ Hl).mono ?_); rintro e w2 ⟨rfl, hbb⟩; replace Q := Q.below hbb; clear hbb; have C := Q.cells)
      | (go_at_call 32; (with_reducible refine (right_c Q _ Hr).mono ?_); rintro e w2 ⟨rfl, hbb⟩; replace Q := Q.below hbb; clear hbb; have C := Q.cells))
    have hn32 : p.ls.length ≤ 32 := HR.out.1.2.1
    have hn8 : p.es.length ≤ 8 := HR.out.1.2.2.2.2
    have hq := Lib.hid (show p.qs.length = p.ls.length from HR.out.1.2.2.1)
    obtain ⟨A0, c0, A1, c1, A2, c2⟩ := x
    go_loopw [20] (fun i wr => ∃ k : Nat, k ≤ p.ls.length ∧ i = .int .i64 k ∧ PQ w p ⟨A0, c0, A1, c1, A2, c2⟩ wr) (fun i _ => p.ls.length - (intOf i).toNat)
    case atStart => exact ⟨0, Nat.zero_le _, rfl, Q⟩
    case round =>
      obtain ⟨k, hk, rfl, Q⟩ := hrel
      have C := Q.cells
      have s0 := lt_blk Q.box
      by_cases hlt : k < p.ls.length
      · have hlt1 : k < p.qs.length := by have := hq.out; omega
        obtain ⟨ad, rfl, e1, e2⟩ := at24 Q.i.h0 (Below.refl _ _) k hlt
        obtain ⟨ad1, rfl, d1⟩ := at42 Q.i.h1 (Below.refl _ _) k hlt1
        have hs : 0 ≤ (p.qs.getD k z42).f2 := (HR.out.2.1 k hlt).2.2.2.2.1
        obtain ⟨s, hs1⟩ : ∃ s, Hid ((p.qs.getD k z42).f2 = s) := ⟨_, Lib.hid rfl⟩
        obtain ⟨y, hy⟩ : ∃ y, Hid (y = p.ls.getD k z24) := ⟨_, Lib.hid rfl⟩
        rw [← hy.out] at e1 e2
        rw [hs1.out] at d1 hs
        go_wp2_with (first
          | (go_at_call 34; (with_reducible refine (at_c (Q.old _) k hlt HR y hy).mono ?_); rintro e w2 ⟨rfl, hbb⟩; replace Q := (Q.old _).below hbb; replace d1 := keep_cell hbb (old_cell d1 _); clear hbb; have C := Q.cells; have hns : ¬ s < 0 := by omega))
        go_roundw
        case rel => exact ⟨k + 1, by omega, by go_num, Q⟩
        case measure => simp [intOf]; omega
      · have hk' := Lib.hid (show k = p.ls.length by omega)
        go_wp2_with fail
        go_loopw [51] (fun i wr => ∃ k : Nat, k ≤ p.es.length ∧ i = .int .i64 k ∧ PQ w p ⟨A0, c0, A1, c1, A2, c2⟩ wr) (fun i _ => p.es.length - (intOf i).toNat)
        case atStart => exact ⟨0, Nat.zero_le _, rfl, Q⟩
        case round =>
          obtain ⟨j, hj, rfl, Q⟩ := hrel
          have C := Q.cells
          have s0 := lt_blk Q.box
          by_cases hlt2 : j < p.es.length
          · obtain ⟨ad2, rfl, e1, e2, e3⟩ := at45 Q.i.h2 (Below.refl _ _) j hlt2
            obtain ⟨y, hy⟩ : ∃ y, Hid (y = p.es.getD j z45) := ⟨_, Lib.hid rfl⟩
            have hE : entOk p.ls.length y := by rw [hy.out]; exact HR.out.2.2 _ (by rw [List.getD_eq_getElem?_getD, List.getElem?_eq_getElem hlt2]; exact List.getElem_mem hlt2)
            rw [← hy.out] at e1 e2 e3
            have hz : y.f1.toList.isEmpty = false := be _ hE.2.2.1
            have hse := Lib.hid (see_own p hG.out hE)
            go_wp2_with (first
              | (go_at_call 21; (with_reducible refine (sees_c (Q.old _) _ _ _ hse).mono ?_); rintro e w2 ⟨rfl, hbb⟩; replace Q := (Q.old _).below hbb; have B := keep_blk hbb (new_blk wr _); have B1 := boxed3 B; clear hbb; have C := Q.cells))
            go_roundw
            case rel => exact ⟨j + 1, by omega, by go_num, Q⟩
            case measure => simp [intOf]; omega
          · go_wp2_with (first
              | (go_at_call 17; (with_reducible refine (awake_true _).mono ?_); rintro e w2 ⟨rfl, hbb⟩; replace Q := Q.below hbb; clear hbb))
            go_ret
            exact ⟨rfl, Q.b⟩
theorem seats_row (w : World) (c0 : Array Value) (p : Pol) (h0 : kPol.K w p (Value.agg c0).cells.toList) (g0 : gp p) :
    Calls Try.prog 11 #[.agg c0] w fun e w' => e = .returned (.bool true) ∧ Below w.heap.size w w' := by
  obtain ⟨x, hx, rfl⟩ := PIn.open h0
  exact seats_walk w p x hx g0
end Go.Proofs.Ytfgcjpclhobnnaa.L
