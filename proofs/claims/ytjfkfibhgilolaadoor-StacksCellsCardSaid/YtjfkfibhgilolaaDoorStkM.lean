/- An access of a range of two stacks is that of the one and then that of the other; no program in sight. -/
import Derived.Test.YtjfkfibhgilolaaDoorStkJ
namespace Go.Proofs.YtjfkfibhgilolaaDoor
set_option maxRecDepth 100000
open Go.RowKit

theorem toldR'_okS {l gone : List Item} {why e : Int} {run : List Int} (h : okS l = true) : okS (toldR' l gone why e run).1 = true := by
  unfold toldR'
  split
  · rfl
  · exact h
theorem useR_okS (l : List Item) (tag : Int) (b : Bool) (run : List Int) : okS (useR l tag b run).1 = true := by
  unfold useR
  split
  · apply toldR'_okS
    unfold accL
    split
    · rename_i h
      exact usedL_ok h
    · rfl
  · rfl
theorem tagR_okS (l : List Item) (k old : Int) (x : Item) (run : List Int) : okS (tagR l k old x run).1 = true := by
  unfold tagR
  split
  · exact toldR'_okS retagR_ok
  · rfl
theorem oneA_okS (what tag : Int) (run : List Int) (l : List Item) : okS (oneA what tag run l).1 = true := by
  unfold oneA
  split
  · exact useR_okS ..
  · split
    · exact useR_okS ..
    · exact tagR_okS ..

def kindA (what : Int) : Bool := what == 0 || what == 5 || kindOk what
theorem useA_ok {x : Stk} {what tag : Int} {a n : Nat} {run : List Int} (hk : kindA what = true) (h : ask33 x a n run = 0) : useA x what a n tag run = eachR (oneA what tag run) x a n := by
  by_cases h0 : what = 0
  · subst h0
    rw [useA_read, use33_ok h]
    rfl
  by_cases h5 : what = 5
  · subst h5
    rw [useA_write, use33_ok h]
    rfl
  · have hko : kindOk what = true := by simpa [kindA, h0, h5] using hk
    rw [useA_tag h0 h5, tag33_ok h hko]
    congr 1
    funext l
    rw [oneA_tag h0 h5]
theorem useA_err {x : Stk} {what tag : Int} {a n : Nat} {run : List Int} (h : (useA x what a n tag run).2.2 = 0) : ask33 x a n run = 0 ∧ kindA what = true := by
  by_cases ha : ask33 x a n run = 0
  · refine ⟨ha, ?_⟩
    by_cases h0 : what = 0
    · simp [kindA, h0]
    by_cases h5 : what = 5
    · simp [kindA, h5]
    · cases hko : kindOk what
      · rw [useA_tag h0 h5, tag33_arg ha hko] at h
        cases h
      · simp [kindA, hko]
  · exfalso
    unfold useA at h
    split at h
    · rw [use33_bad rfl ha] at h
      exact ha h
    · split at h
      · rw [use33_bad rfl ha] at h
        exact ha h
      · rw [tag33_bad rfl ha] at h
        exact ha h
theorem okK_two {num : Int} {a b : List Item} (hn : inB num = true) (ha : okS a = true) (hb : okS b = true) : okK ⟨num, [a, b]⟩ = true := by simp [okK, hn, ha, hb]
theorem okK_parts {num : Int} {a b : List Item} (h : okK ⟨num, [a, b]⟩ = true) : inB num = true ∧ okS a = true ∧ okS b = true := by
  simp [okK] at h
  exact ⟨h.1, h.2.1, h.2.2⟩
theorem ask33_two {num : Int} {a b : List Item} {i n : Nat} {run : List Int} (hr : okR run = true) (hk : okK ⟨num, [a, b]⟩ = true) (hi : i < 2 ∧ 1 ≤ n ∧ n ≤ 2 - i) : ask33 ⟨num, [a, b]⟩ i n run = 0 := by
  rw [ask33, if_pos hr, if_pos hk, if_pos]
  unfold inR33
  simp only [List.length_cons, List.length_nil]
  omega
theorem each_two {f : List Item → List Item × Int × Int} {num : Int} {a b : List Item} {y : Stk} (h : eachR f ⟨num, [a, b]⟩ 0 2 = (y, 0, 0)) : (f a).2.2 = 0 ∧ (f b).2.2 = 0 ∧ (f a).2.1 = 0 ∧ (f b).2.1 = 0 ∧ y = ⟨num, [(f a).1, (f b).1]⟩ := by
  simp only [eachR, eachGo, List.getD_cons_zero, List.getD_cons_succ, List.set_cons_zero, List.set_cons_succ] at h
  by_cases ha : (f a).2.2 = 0
  · rw [if_pos ha] at h
    by_cases hb : (f b).2.2 = 0
    · rw [if_pos hb] at h
      by_cases hw : (f a).2.1 = 0
      · simp only [hw, if_true] at h
        by_cases hv : (f b).2.1 = 0
        · simp [hv] at h
          exact ⟨ha, hb, hw, hv, h.symm⟩
        · simp [hv] at h
      · simp [hw] at h
    · rw [if_neg hb] at h
      simp at h
      exact absurd h.2 hb
  · rw [if_neg ha] at h
    simp at h
    exact absurd h.2 ha

theorem each_fst {f : List Item → List Item × Int × Int} {num : Int} {a b : List Item} (h : (f a).2.2 = 0) (hw : (f a).2.1 = 0) : eachR f ⟨num, [a, b]⟩ 0 1 = (⟨num, [(f a).1, b]⟩, 0, 0) := by
  simp [eachR, eachGo, h, hw]
theorem each_snd {f : List Item → List Item × Int × Int} {num : Int} {a b : List Item} (h : (f b).2.2 = 0) (hw : (f b).2.1 = 0) : eachR f ⟨num, [a, b]⟩ 1 1 = (⟨num, [a, (f b).1]⟩, 0, 0) := by
  simp [eachR, eachGo, h, hw]
/-- A range of two is the one and then the other, both ways about. -/
theorem order_law {num what tag : Int} {a b : List Item} {run : List Int} {y : Stk} (h : useA ⟨num, [a, b]⟩ what 0 2 tag run = (y, 0, 0)) :
    ∃ c d, y = ⟨num, [c, d]⟩ ∧ okK y = true ∧ useA ⟨num, [a, b]⟩ what 0 1 tag run = (⟨num, [c, b]⟩, 0, 0) ∧ useA ⟨num, [c, b]⟩ what 1 1 tag run = (y, 0, 0) ∧ useA ⟨num, [a, b]⟩ what 1 1 tag run = (⟨num, [a, d]⟩, 0, 0) ∧ useA ⟨num, [a, d]⟩ what 0 1 tag run = (y, 0, 0) := by
  obtain ⟨hask, hk⟩ := useA_err (x := ⟨num, [a, b]⟩) (what := what) (tag := tag) (a := 0) (n := 2) (run := run) (by
    show (useA ⟨num, [a, b]⟩ what 0 2 tag run).2.2 = 0
    rw [h])
  have hall : okR run = true ∧ okK ⟨num, [a, b]⟩ = true := by
    rcases ask33_cases ⟨num, [a, b]⟩ ((0 : Nat) : Int) ((2 : Nat) : Int) run with h1 | h1 | ⟨-, h1, h2, -⟩
    · rw [hask] at h1; cases h1
    · rw [hask] at h1; cases h1
    · exact ⟨h1, h2⟩
  obtain ⟨hr, hkk⟩ := hall
  obtain ⟨hn, hsa, hsb⟩ := okK_parts hkk
  have hE : eachR (oneA what tag run) ⟨num, [a, b]⟩ 0 2 = (y, 0, 0) := (useA_ok hk hask).symm.trans h
  obtain ⟨ea, eb, wa, wb, rfl⟩ := each_two hE
  have hc := oneA_okS what tag run a
  have hd := oneA_okS what tag run b
  have hk1 := okK_two hn hc hsb
  have hk2 := okK_two hn hsa hd
  refine ⟨_, _, rfl, okK_two hn hc hd, ?_, ?_, ?_, ?_⟩
  · exact (useA_ok (a := 0) (n := 1) hk (ask33_two hr hkk (by omega))).trans (each_fst ea wa)
  · exact (useA_ok (a := 1) (n := 1) hk (ask33_two hr hk1 (by omega))).trans (each_snd eb wb)
  · exact (useA_ok (a := 1) (n := 1) hk (ask33_two hr hkk (by omega))).trans (each_snd eb wb)
  · exact (useA_ok (a := 0) (n := 1) hk (ask33_two hr hk2 (by omega))).trans (each_fst ea wa)

end Go.Proofs.YtjfkfibhgilolaaDoor
