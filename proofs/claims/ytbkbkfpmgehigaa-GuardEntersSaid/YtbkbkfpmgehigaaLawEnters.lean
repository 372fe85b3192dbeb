/- The statement GuardEnters: for every list of calls and number the call returns true. No condition. -/
import Derived.Test.YtbkbkfpmgehigaaGrdF
import Derived.Test.YtbkbkfpmgehigaaClose
import Derived.Test.YtbkbkfpmgehigaaReadI
namespace Go.Proofs.Ytbkbkfpmgehigaa
open Go.ChangeShapes Go.WideShapes Go.ChangeAt Go.RowKit

/-- A literal slice of items reads as its items. -/
theorem Its.lit31 (w : World) (cs : Array Value) (l : List Item) (n b : Nat) (hb : w.heap.size = b) (hn : l.length = n) (hm : n ≤ maxLen) (hc : cs.toList = l.flatMap Item.row) : Its (w.alloc (.cells cs 41)) (.slice (some ⟨b, 0, none⟩) n n) l := by
  subst hn hb
  have hs : cs.size = l.length * 3 := by
    have := congrArg List.length hc
    rw [rows_len Item.row Item.row_len] at this
    simpa using this
  have := (Own.lit (B := 0) (e := 41) (k := 3) w cs l.length (Nat.zero_le _) hm hs).sl
  rw [hc] at this
  exact this

theorem okR_push {l : List Int} {c : Int} (h : okR l = true) (hc : ¬ (c ≤ lastR l ∨ 1000000 < c)) (hf : ¬ l.length = 32) : okR (l ++ [c]) = true := by
  unfold lastR at hc
  unfold okR at h ⊢
  simp only [Bool.and_eq_true, decide_eq_true_eq] at h
  rw [okFrom_append, h.2, decide_eq_true (by omega : l.getLastD 0 < c), decide_eq_true (by omega : c ≤ 1000000)]
  simp
  omega
theorem okFrom_le_last {last : Int} {l : List Int} (h : okFrom last l = true) : ∀ n ∈ l, n ≤ l.getLastD last := by
  induction l generalizing last with
  | nil => intro n hn; cases hn
  | cons x l ih =>
    simp only [okFrom, Bool.and_eq_true, decide_eq_true_eq] at h
    intro n hn
    have e : (x :: l).getLastD last = l.getLastD x := by cases l <;> rfl
    rw [e]
    rcases List.mem_cons.1 hn with rfl | hn
    · cases l with
      | nil => exact Int.le_refl _
      | cons y l =>
        have h1 := ih h.2 y (List.mem_cons_self ..)
        have h2 := h.2
        simp only [okFrom, Bool.and_eq_true, decide_eq_true_eq] at h2
        omega
    · exact ih h.2 n hn
theorem leave_push {l : List Int} {c : Int} (h : okR (l ++ [c]) = true) : leaveR (l ++ [c]) = (l, 0) := by
  rw [leaveR_ok h (by simp)]
  simp
theorem held_new {l : List Int} {c : Int} (h : okR (l ++ [c]) = true) (hc : 0 < c ∧ c ≤ 1000000) : heldR [⟨3, 0, 0⟩, ⟨3, 0, c⟩] (l ++ [c]) = (1, 0) := by
  have hz : hasR (l ++ [c]) 0 = false := by
    unfold hasR
    rw [List.contains_eq_any_beq]
    apply List.any_eq_false.2
    intro n hn hb
    have := (okFrom_all (okR_from h) n hn).1
    simp at hb
    omega
  have hy : hasR (l ++ [c]) c = true := by
    unfold hasR
    simp
  rw [heldR_some (i := 1) h (by simp [Item.ok, inB]; omega) (by simp [firstR, List.findIdx?_cons, heldBy, hz, hy])]
  rfl
theorem held_old {l : List Int} {c : Int} (h : okR l = true) (hc : ¬ (c ≤ lastR l ∨ 1000000 < c)) (hc0 : 0 < c) : heldR [⟨3, 0, c⟩] l = (0, 6) := by
  have hz : hasR l c = false := by
    unfold hasR
    rw [List.contains_eq_any_beq]
    apply List.any_eq_false.2
    intro n hn hb
    have := okFrom_le_last (okR_from h) n hn
    simp at hb
    unfold lastR at hc
    omega
  rw [heldR_none h (by simp [Item.ok, inB]; omega) (by simp [firstR, List.findIdx?_cons, heldBy, hz])]

set_option maxRecDepth 100000 in
set_option maxHeartbeats 6400000 in
theorem guardEnters_walk {run : List Int} {v : Value} {w : World} (c : Int) (hr : Nts w v run) :
    Calls Try.prog 4 #[v, .int .i64 c] w fun e w' => e = .returned (.bool true) ∧ Ext w w' := by
  have hR := Lib.hid hr
  obtain ⟨a, cp, rfl, hlc, hcm, -⟩ := hr.form
  unfold maxLen at hcm
  clear hr
  go_enter Try.func4, Try.ntmps4
  go_wp2_with fail
  refine (law31_alive _).mono ?_
  rintro e w1 ⟨rfl, hE1⟩
  by_cases h1 : 50 < run.length
  · have q1 : decide ((50 : Int) < (run.length : Int)) = true := decide_eq_true (by omega)
    go_wp2
    go_ret
    exact ⟨rfl, hE1⟩
  · have q1 : decide ((50 : Int) < (run.length : Int)) = false := decide_eq_false (by omega)
    go_wp2_with fail
    refine (ref31_Check (hR.out.ext hE1)).mono ?_
    rintro e w2 ⟨rfl, rfl⟩
    cases hok : okR run
    · rw [runErr_bad hok]
      clear hok
      go_wp2
      go_ret
      exact ⟨rfl, hE1⟩
    · rw [runErr_ok hok]
      have hok' := Lib.hid hok
      clear hok
      go_wp2_with fail
      refine (guard_Enter c (hR.out.ext hE1)).mono ?_
      rintro e w3 ⟨va, rfl, hva, hE3⟩
      have hF3 := hE1.trans hE3
      have hok := hok'.out
      clear hok'
      obtain ⟨hll, hl1⟩ := last_low hok
      have h32 := okR_len hok
      obtain ⟨last, hlast⟩ : ∃ n, lastR run = n := ⟨_, rfl⟩
      by_cases hA : c ≤ last ∨ 1000000 < c
      · have hen := enterR_low hok (by rw [hlast]; exact hA)
        rw [hen] at hva
        rw [hen]
        obtain ⟨a1, c1, rfl, -⟩ := hva.form
        clear hva hen
        dsimp only [List.length_nil]
        rw [hlast] at hll hl1
        have hcase : decide (c < 1) = true ∨ (decide (c < 1) = false ∧ decide (1000000 < c) = true) ∨ (decide (c < 1) = false ∧ decide (1000000 < c) = false ∧ run.length ≠ 0 ∧ c ≤ last) := by
          by_cases hc1 : c < 1
          · exact .inl (decide_eq_true hc1)
          · by_cases hc2 : 1000000 < c
            · exact .inr (.inl ⟨decide_eq_false hc1, decide_eq_true hc2⟩)
            · exact .inr (.inr ⟨decide_eq_false hc1, decide_eq_false hc2, fun hz => by
                have e : run = [] := List.eq_nil_of_length_eq_zero hz
                rw [e] at hlast
                have : last = 0 := hlast.symm.trans rfl
                omega, by omega⟩)
        clear hA
        rcases hcase with g1 | ⟨g1, g2⟩ | ⟨g1, g2, hnz, hcl⟩
        · clear hok hlast
          go_wp2
          go_ret
          exact ⟨rfl, hF3⟩
        · clear hok hlast
          go_wp2
          go_ret
          exact ⟨rfl, hF3⟩
        · obtain ⟨b, off, rfl, _, hce⟩ := (hR.out.ext hF3).cell (last_is hnz)
          rw [hlast] at hce
          have g3 : decide (0 < run.length) = true := decide_eq_true (by omega)
          have g4 : decide (c ≤ last) = true := decide_eq_true hcl
          have g5 : (0 : Int) ≤ (run.length : Int) - 1 := by omega
          have g6 : (run.length : Int) - 1 < (run.length : Int) := by omega
          have g7 : ((run.length : Int) - 1).toNat = run.length - 1 := by omega
          clear hok hlast hl1 hll hcl hnz h32 h1
          go_wp2
          go_ret
          exact ⟨rfl, hF3⟩
      · have hlastc : ¬ (c ≤ lastR run ∨ 1000000 < c) := by rw [hlast]; exact hA
        have hc0 : 0 < c := by omega
        by_cases hf : run.length = 32
        · have hen := enterR_full hok hlastc hf
          rw [hen] at hva
          rw [hen]
          obtain ⟨a1, c1, rfl, -⟩ := hva.form
          clear hva hen
          dsimp only [List.length_nil]
          obtain ⟨b, off, rfl, _, hce⟩ := (hR.out.ext hF3).cell (last_is (by omega))
          rw [hlast] at hce
          have g1 : decide (c < 1) = false := decide_eq_false (by omega)
          have g2 : decide (1000000 < c) = false := decide_eq_false (by omega)
          have g3 : decide (0 < run.length) = true := decide_eq_true (by omega)
          have g4 : decide (c ≤ last) = false := decide_eq_false (by omega)
          have g5 : (0 : Int) ≤ (run.length : Int) - 1 := by omega
          have g6 : (run.length : Int) - 1 < (run.length : Int) := by omega
          have g7 : ((run.length : Int) - 1).toNat = run.length - 1 := by omega
          have g8 : ((run.length : Int) == 32) = true := beq_iff_eq.2 (by omega)
          clear hok hlast hlastc hl1 hll hA hc0 h32 h1 hf
          go_wp2
          go_ret
          exact ⟨rfl, hF3⟩
        · have hen := enterR_ok hok hlastc hf
          have hok2 := okR_push hok hlastc hf
          have hlv := leave_push hok2
          have hhn := held_new hok2 ⟨hc0, by omega⟩
          have hho := Lib.hid (held_old hok hlastc hc0)
          have hck := runErr_ok hok2
          obtain ⟨EL, hEL⟩ : ∃ L, run ++ [c] = L := ⟨_, rfl⟩
          rw [hEL] at hen hlv hhn hck
          rw [hen] at hva
          rw [hen]
          have hlv := Lib.hid hlv; have hhn := Lib.hid hhn; have hck := Lib.hid hck
          clear hok hok2 hlast hlastc hl1 hll hA hc0 h32 h1 hen hEL hf
          dsimp only at hva ⊢
          obtain ⟨a1, c1, rfl, -⟩ := hva.form
          have hva := Lib.hid hva
          go_wp2_with fail
          refine (guard_Leave hva.out).mono ?_
          rintro e w4 ⟨vb, rfl, hvb, hE4⟩
          rw [hlv.out] at hvb
          rw [hlv.out]
          dsimp only at hvb ⊢
          obtain ⟨a2, c2, rfl, -⟩ := hvb.form
          have hvb := Lib.hid hvb
          go_wp2_with fail
          have hx4 : Ext w4 (w4.alloc (.cells #[.int .u8 3, .int .i64 0, .int .i64 0, .int .u8 3, .int .i64 0, .int .i64 c] 41)) := (Ext.refl _).alloc _
          refine (guard_Held (l := [⟨3, 0, 0⟩, ⟨3, 0, c⟩]) (Its.lit31 _ _ _ _ _ rfl rfl (by simp [maxLen]) rfl) ((hva.out.ext hE4).ext hx4)).mono ?_
          rintro e w5 ⟨rfl, hE5⟩
          rw [hhn.out]
          go_wp2_with fail
          have hx5 : Ext w5 (w5.alloc (.cells #[.int .u8 3, .int .i64 0, .int .i64 c] 41)) := (Ext.refl _).alloc _
          have hF5 := (hE4.trans hx4).trans (hE5.trans hx5)
          refine (guard_Held (l := [⟨3, 0, c⟩]) (Its.lit31 _ _ _ _ _ rfl rfl (by simp [maxLen]) rfl) ((hR.out.ext hF3).ext hF5)).mono ?_
          rintro e w6 ⟨rfl, hE6⟩
          rw [hho.out]
          have hF6 := hF5.trans hE6
          go_wp2_with fail
          refine (guard_Check (hva.out.ext hF6)).mono ?_
          rintro e w7 ⟨rfl, rfl⟩
          rw [hck.out]
          go_wp2_with fail
          refine (ref31_SameInts ((hvb.out.ext hx4).ext ((hE5.trans hx5).trans hE6)) ((hR.out.ext hF3).ext hF6)).mono ?_
          rintro e w8 ⟨rfl, hE8⟩
          go_wp2
          go_ret
          exact ⟨rfl, (hF3.trans hF6).trans hE8⟩

set_option maxRecDepth 100000 in
theorem guardEnters_lifted (os : Os) (started : os.Started) (H : Type) (enc : TypeId × Value → H) :
    ReturnsInHanded {} Try.checked os 4 .any (Rows.guardEntersSpec.pre6 enc Try.prog Try.f4 Rows.guardEntersRow.domain false) (Rows.guardEntersSpec.post enc Try.prog Try.f4 false true false false) := by
  refine returnsInHanded_of_change (C := Try.checked) Tryown started (by kernel_rfl) Try.func4
    (ChangeSpec.witness6 (enc := enc) (C := Try.checked) false ⟨#[], #[.slice none 0 0, .int .i64 0], []⟩ 8 (by kernel_rfl) (by kernel_rfl) (by kernel_rfl) (by kernel_rfl)) ?_
  intro W base args ds gs before hval0 hW _ _
  have hval : ∀ (j : Nat) t v, Try.f4.params[j]? = some t → args[j]? = some v → Value.okWide Try.prog W .any base t v := hval0
  have hW' := hW
  obtain ⟨p, q, hA0, hV, rfl, hfz, hnd⟩ := hW
  have hA : DataW.TrodAll enc Try.prog W 0 (fun _ => true) true Try.f4.params.toList args.toList ds p := hA0
  rw [Try.params4] at hA hval
  obtain ⟨v0, vs0, d0, ds0, p0, q0, hargs, rfl, rfl, h0, r0⟩ := trodAll_cons hA
  obtain ⟨v1, vs1, d1, ds1, p1, q1, rfl, rfl, rfl, h1, r1⟩ := trodAll_cons r0
  obtain ⟨rfl, rfl, rfl⟩ := trodAll_nil r1
  obtain rfl : args = #[v0, v1] := by cases args; simp_all
  obtain ⟨x0, k0, wf0⟩ := open_ints' Try.underlying22 (hval 0 22 v0 rfl rfl) h0
  obtain ⟨x1, rfl, rfl, rfl, wf1⟩ := open_int Try.underlying3 (hval 1 3 v1 rfl rfl) h1
  refine (guardEnters_walk x1 k0).mono fun e W' ⟨he, hb⟩ => ?_
  subst he
  exact ⟨_, rfl, post_law TrylaidOut (tb := 4) rfl Try.underlying4 (by kernel_rfl) rfl (fun ds hd => match ds, hd with | [a0, a1], _ => rfl) hW' hb⟩

theorem guardEnters_holds : Rows.GuardEntersSaid :=
  OpenClaim.holds_of_wide 4 Try.f4 rfl rfl rfl rfl rfl rfl rfl ⟨rfl, rfl, rfl, rfl, rfl⟩ rfl rfl rfl rfl rfl (by kernel_rfl) Try.func4 (by kernel_rfl)
    (of_decide_eq_true (by kernel_rfl)) (by unfold Func.isWrapper; first | (rw [if_pos (by decide +kernel)]; kernel_rfl) | (rw [if_neg (by decide +kernel)]; exact ⟨rfl, rfl⟩))
    (fun os started H enc _ => guardEnters_lifted os started H enc)

end Go.Proofs.Ytbkbkfpmgehigaa
