/- Several texts in one: StkM, StkO, Read, Close, Door, Law30A, AccF, Law31C. -/
import Derived.Test.YtjfkfibhgilolaaDoorQ07
import Derived.Test.YtjfkfibhgilolaaDoorRows
import Derived.Test.YtjfkfibhgilolaaDoorQ01
import Derived.ProofKit
import Derived.Deep.Slices
import Derived.Test.YtjfkfibhgilolaaDoorQ04
import Derived.Test.YtjfkfibhgilolaaDoorCards
import Derived.Test.YtjfkfibhgilolaaDoorTie
import Derived.OpenShut
import Derived.Deep.DeepHandedRow
import Derived.Lib.LaidTab
import Derived.Test.YtjfkfibhgilolaaDoorQ03
import Derived.Test.YtjfkfibhgilolaaDoorQ05
/- An access of a range of two stacks is that of the one and then that of the other; no program in sight. -/
namespace Go.Proofs.YtjfkfibhgilolaaDoor
set_option maxRecDepth 100000
open Go.RowKit

theorem toldR'_okS {l gone : List Item} {why e : Int} {run : List Int} (h : okS l = true) : okS (toldR' l gone why e run).1 = true := by
  unfold toldR'
  split
  · rfl
  · exact h
theorem useR_okS (l : List Item) (tag : Int) (b : Bool) (run : List Int) : okS (useR l tag b run).1 = true := by
  unfold useR
  split
  · apply toldR'_okS
    unfold accL
    split
    · rename_i h
      exact usedL_ok h
    · rfl
  · rfl
theorem tagR_okS (l : List Item) (k old : Int) (x : Item) (run : List Int) : okS (tagR l k old x run).1 = true := by
  unfold tagR
  split
  · exact toldR'_okS retagR_ok
  · rfl
theorem oneA_okS (what tag : Int) (run : List Int) (l : List Item) : okS (oneA what tag run l).1 = true := by
  unfold oneA
  split
  · exact useR_okS ..
  · split
    · exact useR_okS ..
    · exact tagR_okS ..

def kindA (what : Int) : Bool := what == 0 || what == 5 || kindOk what
theorem useA_ok {x : Stk} {what tag : Int} {a n : Nat} {run : List Int} (hk : kindA what = true) (h : ask33 x a n run = 0) : useA x what a n tag run = eachR (oneA what tag run) x a n := by
  by_cases h0 : what = 0
  · subst h0
    rw [useA_read, use33_ok h]
    rfl
  by_cases h5 : what = 5
  · subst h5
    rw [useA_write, use33_ok h]
    rfl
  · have hko : kindOk what = true := by simpa [kindA, h0, h5] using hk
    rw [useA_tag h0 h5, tag33_ok h hko]
    congr 1
    funext l
    rw [oneA_tag h0 h5]
theorem useA_err {x : Stk} {what tag : Int} {a n : Nat} {run : List Int} (h : (useA x what a n tag run).2.2 = 0) : ask33 x a n run = 0 ∧ kindA what = true := by
  by_cases ha : ask33 x a n run = 0
  · refine ⟨ha, ?_⟩
    by_cases h0 : what = 0
    · simp [kindA, h0]
    by_cases h5 : what = 5
    · simp [kindA, h5]
    · cases hko : kindOk what
      · rw [useA_tag h0 h5, tag33_arg ha hko] at h
        cases h
      · simp [kindA, hko]
  · exfalso
    unfold useA at h
    split at h
    · rw [use33_bad rfl ha] at h
      exact ha h
    · split at h
      · rw [use33_bad rfl ha] at h
        exact ha h
      · rw [tag33_bad rfl ha] at h
        exact ha h
theorem okK_two {num : Int} {a b : List Item} (hn : inB num = true) (ha : okS a = true) (hb : okS b = true) : okK ⟨num, [a, b]⟩ = true := by simp [okK, hn, ha, hb]
theorem okK_parts {num : Int} {a b : List Item} (h : okK ⟨num, [a, b]⟩ = true) : inB num = true ∧ okS a = true ∧ okS b = true := by
  simp [okK] at h
  exact ⟨h.1, h.2.1, h.2.2⟩
theorem ask33_two {num : Int} {a b : List Item} {i n : Nat} {run : List Int} (hr : okR run = true) (hk : okK ⟨num, [a, b]⟩ = true) (hi : i < 2 ∧ 1 ≤ n ∧ n ≤ 2 - i) : ask33 ⟨num, [a, b]⟩ i n run = 0 := by
  rw [ask33, if_pos hr, if_pos hk, if_pos]
  unfold inR33
  simp only [List.length_cons, List.length_nil]
  omega
theorem each_two {f : List Item → List Item × Int × Int} {num : Int} {a b : List Item} {y : Stk} (h : eachR f ⟨num, [a, b]⟩ 0 2 = (y, 0, 0)) : (f a).2.2 = 0 ∧ (f b).2.2 = 0 ∧ (f a).2.1 = 0 ∧ (f b).2.1 = 0 ∧ y = ⟨num, [(f a).1, (f b).1]⟩ := by
  simp only [eachR, eachGo, List.getD_cons_zero, List.getD_cons_succ, List.set_cons_zero, List.set_cons_succ] at h
  by_cases ha : (f a).2.2 = 0
  · rw [if_pos ha] at h
    by_cases hb : (f b).2.2 = 0
    · rw [if_pos hb] at h
      by_cases hw : (f a).2.1 = 0
      · simp only [hw, if_true] at h
        by_cases hv : (f b).2.1 = 0
        · simp [hv] at h
          exact ⟨ha, hb, hw, hv, h.symm⟩
        · simp [hv] at h
      · simp [hw] at h
    · rw [if_neg hb] at h
      simp at h
      exact absurd h.2 hb
  · rw [if_neg ha] at h
    simp at h
    exact absurd h.2 ha

theorem each_fst {f : List Item → List Item × Int × Int} {num : Int} {a b : List Item} (h : (f a).2.2 = 0) (hw : (f a).2.1 = 0) : eachR f ⟨num, [a, b]⟩ 0 1 = (⟨num, [(f a).1, b]⟩, 0, 0) := by
  simp [eachR, eachGo, h, hw]
theorem each_snd {f : List Item → List Item × Int × Int} {num : Int} {a b : List Item} (h : (f b).2.2 = 0) (hw : (f b).2.1 = 0) : eachR f ⟨num, [a, b]⟩ 1 1 = (⟨num, [a, (f b).1]⟩, 0, 0) := by
  simp [eachR, eachGo, h, hw]
/-- A range of two is the one and then the other, both ways about. -/
theorem order_law {num what tag : Int} {a b : List Item} {run : List Int} {y : Stk} (h : useA ⟨num, [a, b]⟩ what 0 2 tag run = (y, 0, 0)) :
    ∃ c d, y = ⟨num, [c, d]⟩ ∧ okK y = true ∧ useA ⟨num, [a, b]⟩ what 0 1 tag run = (⟨num, [c, b]⟩, 0, 0) ∧ useA ⟨num, [c, b]⟩ what 1 1 tag run = (y, 0, 0) ∧ useA ⟨num, [a, b]⟩ what 1 1 tag run = (⟨num, [a, d]⟩, 0, 0) ∧ useA ⟨num, [a, d]⟩ what 0 1 tag run = (y, 0, 0) := by
  obtain ⟨hask, hk⟩ := useA_err (x := ⟨num, [a, b]⟩) (what := what) (tag := tag) (a := 0) (n := 2) (run := run) (by
    show (useA ⟨num, [a, b]⟩ what 0 2 tag run).2.2 = 0
    rw [h])
  have hall : okR run = true ∧ okK ⟨num, [a, b]⟩ = true := by
    rcases ask33_cases ⟨num, [a, b]⟩ ((0 : Nat) : Int) ((2 : Nat) : Int) run with h1 | h1 | ⟨-, h1, h2, -⟩
    · rw [hask] at h1; cases h1
    · rw [hask] at h1; cases h1
    · exact ⟨h1, h2⟩
  obtain ⟨hr, hkk⟩ := hall
  obtain ⟨hn, hsa, hsb⟩ := okK_parts hkk
  have hE : eachR (oneA what tag run) ⟨num, [a, b]⟩ 0 2 = (y, 0, 0) := (useA_ok hk hask).symm.trans h
  obtain ⟨ea, eb, wa, wb, rfl⟩ := each_two hE
  have hc := oneA_okS what tag run a
  have hd := oneA_okS what tag run b
  have hk1 := okK_two hn hc hsb
  have hk2 := okK_two hn hsa hd
  refine ⟨_, _, rfl, okK_two hn hc hd, ?_, ?_, ?_, ?_⟩
  · exact (useA_ok (a := 0) (n := 1) hk (ask33_two hr hkk (by omega))).trans (each_fst ea wa)
  · exact (useA_ok (a := 1) (n := 1) hk (ask33_two hr hk1 (by omega))).trans (each_snd eb wb)
  · exact (useA_ok (a := 1) (n := 1) hk (ask33_two hr hkk (by omega))).trans (each_snd eb wb)
  · exact (useA_ok (a := 0) (n := 1) hk (ask33_two hr hk2 (by omega))).trans (each_fst ea wa)

end Go.Proofs.YtjfkfibhgilolaaDoor

/- An access of a range is those of its cells; no program in sight. (printed by gen/cells33b.py) -/
namespace Go.Proofs.YtjfkfibhgilolaaDoor
set_option maxRecDepth 100000
open Go.RowKit

theorem useA_zero {x : Stk} {what a n tag : Int} {run : List Int} (h : (useA x what a n tag run).2.2 ≠ 0) : (useA x what a n tag run).1 = Stk.zero ∧ (useA x what a n tag run).2.1 = 0 := by
  have key : ∀ (f : List Item → List Item × Int × Int) (num : Int) (cells : List (List Item)) (m j : Nat) (out : List (List Item)) (why : Int), (eachGo f num cells m j out why).2.2 ≠ 0 → (eachGo f num cells m j out why).1 = Stk.zero ∧ (eachGo f num cells m j out why).2.1 = 0 := by
    intro f num cells m
    induction m with
    | zero =>
      intro j out why h
      exfalso
      unfold eachGo at h
      split at h <;> exact h rfl
    | succ m ih =>
      intro j out why h
      unfold eachGo at h ⊢
      split
      · rename_i h1
        rw [if_pos h1] at h
        exact ih _ _ _ h
      · exact ⟨rfl, rfl⟩
  have hu : ∀ b, (use33 x a n tag b run).2.2 ≠ 0 → (use33 x a n tag b run).1 = Stk.zero ∧ (use33 x a n tag b run).2.1 = 0 := by
    intro b h
    unfold use33 at h ⊢
    split
    · rename_i h1
      rw [if_pos h1] at h
      exact key _ _ _ _ _ _ _ h
    · exact ⟨rfl, rfl⟩
  unfold useA at h ⊢
  split
  · rename_i h1
    rw [if_pos h1] at h
    exact hu _ h
  · rename_i h1
    rw [if_neg h1] at h
    split
    · rename_i h2
      rw [if_pos h2] at h
      exact hu _ h
    · rename_i h2
      rw [if_neg h2] at h
      unfold tag33 at h ⊢
      split
      · rename_i h3
        rw [if_pos h3] at h
        split
        · rename_i h4
          rw [if_pos h4] at h
          exact key _ _ _ _ _ _ _ h
        · exact ⟨rfl, rfl⟩
      · exact ⟨rfl, rfl⟩

/-- What a round of the statement's loop may take for granted. -/
def CellsR (f : List Item → List Item × Int × Int) (l yl : List (List Item)) (why : Int) (A N : Nat) (F : Nat → Int) : Prop :=
  ∀ (i : Nat) (p : List Item), l[i]? = some p → (¬ (A ≤ i ∧ i < A + N) → F (i + 1) = F i ∧ (why = 0 → F i = 0 ∧ yl[i]? = some p)) ∧ (A ≤ i ∧ i < A + N → (f p).2.2 = 0 ∧ F (i + 1) = (if F i = 0 then (f p).2.1 else F i) ∧ (why = 0 → F i = 0 ∧ yl[i]? = some (f p).1))

def fstW (f : List Item → List Item × Int × Int) (l : List (List Item)) (A N : Nat) : Nat → Int
  | 0 => 0
  | i + 1 => if A ≤ i ∧ i < A + N then (if fstW f l A N i = 0 then (f (l.getD i [])).2.1 else fstW f l A N i) else fstW f l A N i
theorem getD_of {l : List (List Item)} {i : Nat} {p : List Item} (h : l[i]? = some p) : l.getD i [] = p := by rw [List.getD_eq_getElem?_getD, h]; rfl
theorem fstW_out {f : List Item → List Item × Int × Int} {l : List (List Item)} {A N i : Nat} (h : ¬ (A ≤ i ∧ i < A + N)) : fstW f l A N (i + 1) = fstW f l A N i := by rw [fstW, if_neg h]
theorem fstW_in {f : List Item → List Item × Int × Int} {l : List (List Item)} {A N i : Nat} {p : List Item} (h : A ≤ i ∧ i < A + N) (hp : l[i]? = some p) : fstW f l A N (i + 1) = if fstW f l A N i = 0 then (f p).2.1 else fstW f l A N i := by rw [fstW, if_pos h, getD_of hp]
theorem fstW_low {f : List Item → List Item × Int × Int} {l : List (List Item)} {A N : Nat} : ∀ {i : Nat}, i ≤ A → fstW f l A N i = 0
  | 0, _ => rfl
  | i + 1, h => by rw [fstW_out (by omega), fstW_low (by omega)]
theorem fstW_high {f : List Item → List Item × Int × Int} {l : List (List Item)} {A N : Nat} : ∀ (d : Nat), fstW f l A N (A + N + d) = fstW f l A N (A + N)
  | 0 => rfl
  | d + 1 => by rw [← Nat.add_assoc, fstW_out (by omega), fstW_high d]
theorem fstW_keep {f : List Item → List Item × Int × Int} {l : List (List Item)} {A N i : Nat} (h : fstW f l A N i ≠ 0) : ∀ d, fstW f l A N (i + d) ≠ 0
  | 0 => h
  | d + 1 => by
    have ih := fstW_keep h d
    rw [← Nat.add_assoc, fstW, if_neg ih]
    split <;> exact ih

theorem eachGo_cells {f : List Item → List Item × Int × Int} {num yn w : Int} {l yl : List (List Item)} {A N : Nat} (hT : A + N ≤ l.length) : ∀ (m j : Nat) (out : List (List Item)) (why : Int), j + m = A + N → A ≤ j → out.length = l.length → why = fstW f l A N j →
    (∀ i, j ≤ i → out[i]? = l[i]?) → (∀ i, i < A → out[i]? = l[i]?) → (∀ i p, l[i]? = some p → A ≤ i → i < j → (f p).2.2 = 0 ∧ out[i]? = some (f p).1) → eachGo f num l m j out why = (⟨yn, yl⟩, w, 0) →
    fstW f l A N (A + N) = w ∧ (∀ i p, l[i]? = some p → A ≤ i → i < A + N → (f p).2.2 = 0 ∧ (w = 0 → yl[i]? = some (f p).1)) ∧ (w = 0 → yn = num ∧ yl.length = l.length ∧ ∀ i, ¬ (A ≤ i ∧ i < A + N) → yl[i]? = l[i]?) ∧ (w ≠ 0 → yn = 0 ∧ yl = []) := by
  intro m
  induction m with
  | zero =>
    intro j out why hj hA ho hw h1 h2 h3 h
    obtain rfl : j = A + N := by omega
    unfold eachGo at h
    by_cases h0 : why = 0
    · rw [if_pos h0] at h
      simp only [Prod.mk.injEq, Stk.mk.injEq, and_true] at h
      obtain ⟨⟨rfl, rfl⟩, rfl⟩ := h
      refine ⟨hw.symm.trans h0, fun i p hp ha hi => ⟨(h3 i p hp ha hi).1, fun _ => (h3 i p hp ha hi).2⟩, fun _ => ⟨rfl, ho, fun i hn => ?_⟩, fun hn => absurd rfl hn⟩
      by_cases hi : i < A
      · exact h2 i hi
      · exact h1 i (by omega)
    · rw [if_neg h0] at h
      simp only [Prod.mk.injEq, Stk.mk.injEq, Stk.zero, and_true] at h
      obtain ⟨⟨rfl, rfl⟩, rfl⟩ := h
      exact ⟨hw.symm, fun i p hp ha hi => ⟨(h3 i p hp ha hi).1, fun e => absurd e h0⟩, fun e => absurd e h0, fun _ => ⟨rfl, rfl⟩⟩
  | succ m ih =>
    intro j out why hj hA ho hw h1 h2 h3 h
    have hlt : j < l.length := by omega
    have hp : l[j]? = some l[j] := List.getElem?_eq_getElem hlt
    unfold eachGo at h
    rw [getD_of hp] at h
    by_cases h0 : (f l[j]).2.2 = 0
    · rw [if_pos h0] at h
      refine ih (j + 1) _ _ (by omega) (by omega) (by simpa using ho) ?_ (fun i hi => ?_) (fun i hi => ?_) (fun i p hip ha hi => ?_) h
      · rw [fstW_in ⟨hA, by omega⟩ hp, ← hw]
      · rw [List.getElem?_set_ne (by omega)]; exact h1 i (by omega)
      · rw [List.getElem?_set_ne (by omega)]; exact h2 i hi
      · by_cases e : i = j
        · subst e
          rw [hp] at hip
          cases hip
          exact ⟨h0, List.getElem?_set_self (by omega)⟩
        · obtain ⟨k1, k2⟩ := h3 i p hip ha (by omega)
          exact ⟨k1, by rw [List.getElem?_set_ne (fun e' => e e'.symm)]; exact k2⟩
    · rw [if_neg h0] at h
      simp only [Prod.mk.injEq] at h
      exact absurd h.2.2 h0

theorem each_cells {f : List Item → List Item × Int × Int} {num yn why : Int} {l yl : List (List Item)} {A N : Nat} (hA : A + N ≤ l.length) (h : eachR f ⟨num, l⟩ A N = (⟨yn, yl⟩, why, 0)) :
    fstW f l A N l.length = why ∧ CellsR f l yl why A N (fstW f l A N) ∧ (why = 0 → yn = num ∧ yl.length = l.length) ∧ (why ≠ 0 → yn = 0 ∧ yl = []) := by
  unfold eachR at h
  have hj : A + N = A + N := rfl
  obtain ⟨k1, k2, k3, k4⟩ := eachGo_cells hA N A l 0 hj (Nat.le_refl _) rfl (fstW_low (Nat.le_refl _)).symm (fun _ _ => rfl) (fun _ _ => rfl) (fun i p _ h1 h2 => by omega) h
  have hF : fstW f l A N l.length = why := by
    have := fstW_high (f := f) (l := l) (A := A) (N := N) (l.length - (A + N))
    rw [show A + N + (l.length - (A + N)) = l.length by omega] at this
    rw [this, k1]
  have hz : why = 0 → ∀ i, i < l.length → fstW f l A N i = 0 := by
    intro hw i hi
    apply Decidable.byContradiction
    intro hn
    have := fstW_keep hn (l.length - i)
    rw [show i + (l.length - i) = l.length by omega] at this
    exact this (hF.trans hw)
  refine ⟨hF, fun i p hp => ?_, fun hw => ⟨(k3 hw).1, (k3 hw).2.1⟩, k4⟩
  have hi : i < l.length := (List.getElem?_eq_some_iff.1 hp).1
  refine ⟨fun hn => ⟨fstW_out hn, fun hw => ⟨hz hw i hi, ((k3 hw).2.2 i hn).trans hp⟩⟩, fun hin => ?_⟩
  obtain ⟨e1, e2⟩ := k2 i p hp hin.1 hin.2
  exact ⟨e1, fstW_in hin hp, fun hw => ⟨hz hw i hi, e2 hw⟩⟩

theorem useA_errI {x : Stk} {what tag a n : Int} {run : List Int} (h : (useA x what a n tag run).2.2 = 0) : ask33 x a n run = 0 ∧ kindA what = true := by
  by_cases ha : ask33 x a n run = 0
  · refine ⟨ha, ?_⟩
    by_cases h0 : what = 0
    · simp [kindA, h0]
    by_cases h5 : what = 5
    · simp [kindA, h5]
    · cases hko : kindOk what
      · rw [useA_tag h0 h5, tag33_arg ha hko] at h
        cases h
      · simp [kindA, hko]
  · exfalso
    unfold useA at h
    split at h
    · rw [use33_bad rfl ha] at h
      exact ha h
    · split at h
      · rw [use33_bad rfl ha] at h
        exact ha h
      · rw [tag33_bad rfl ha] at h
        exact ha h

theorem cells_law {num what a n tag yn why : Int} {l yl : List (List Item)} {run : List Int} (h : useA ⟨num, l⟩ what a n tag run = (⟨yn, yl⟩, why, 0)) :
    ∃ (A N : Nat) (F : Nat → Int), a = A ∧ n = N ∧ 1 ≤ N ∧ A + N ≤ l.length ∧ l.length ≤ 2 ∧ F 0 = 0 ∧ F l.length = why ∧ CellsR (oneA what tag run) l yl why A N F ∧ (why = 0 → yn = num ∧ yl.length = l.length) ∧ (why ≠ 0 → yn = 0 ∧ yl = []) := by
  have hk : ask33 ⟨num, l⟩ a n run = 0 ∧ kindA what = true := useA_errI (tag := tag) (by rw [h])
  obtain ⟨hask, hkk⟩ := hk
  rcases ask33_cases ⟨num, l⟩ a n run with h1 | h1 | ⟨-, hrok, hok, hin⟩
  · rw [hask] at h1; cases h1
  · rw [hask] at h1; cases h1
  · obtain ⟨i1, i2, i3, i4⟩ := hin
    dsimp only at i2 i4
    obtain ⟨A, rfl⟩ : ∃ m : Nat, a = m := ⟨a.toNat, by omega⟩
    obtain ⟨N, rfl⟩ : ∃ m : Nat, n = m := ⟨n.toNat, by omega⟩
    have hT : A + N ≤ l.length := by omega
    have hE : eachR (oneA what tag run) ⟨num, l⟩ A N = (⟨yn, yl⟩, why, 0) := (useA_ok hkk hask).symm.trans h
    obtain ⟨k1, k2, k3, k4⟩ := each_cells hT hE
    exact ⟨A, N, fstW (oneA what tag run) l A N, rfl, rfl, by omega, hT, (okK_small33 hok).1, rfl, k1, k2, k3, k4⟩

end Go.Proofs.YtjfkfibhgilolaaDoor

/- How the arguments of a statement read: a slice of items; and how a statement is closed that only makes memory. -/
namespace Go.Proofs.YtjfkfibhgilolaaDoor
set_option maxRecDepth 100000
open Go.ChangeShapes Go.WideShapes Go.ChangeAt Go.RowKit

theorem flat_get {k : Nat} {rows : List (List Value)} (hk : ∀ r ∈ rows, r.length = k) {j : Nat} {u : Value} (h : rows.flatten[j]? = some u) : ∃ i r m, rows[i]? = some r ∧ r[m]? = some u ∧ m < k ∧ j = i * k + m := by
  induction rows generalizing j with
  | nil => simp at h
  | cons r rows ih =>
    rw [List.flatten_cons] at h
    have hr : r.length = k := hk r (by simp)
    by_cases hj : j < k
    · rw [List.getElem?_append_left (by omega)] at h
      exact ⟨0, r, j, rfl, h, hj, by simp⟩
    · rw [List.getElem?_append_right (by omega)] at h
      obtain ⟨i, r', m, h1, h2, h3, h4⟩ := ih (fun r hr => hk r (by simp [hr])) h
      exact ⟨i + 1, r', m, by simpa using h1, h2, h3, by rw [Nat.add_mul]; omega⟩

theorem flat_len {k : Nat} {rows : List (List Value)} (hk : ∀ r ∈ rows, r.length = k) : rows.flatten.length = rows.length * k := by
  induction rows with
  | nil => simp
  | cons r rows ih => rw [List.flatten_cons, List.length_append, ih (fun r hr => hk r (by simp [hr])), hk r (by simp), List.length_cons, Nat.add_mul]; omega

theorem mapM_get {β : Type} {f : Nat → Option β} {n : Nat} {l : List β} (h : (List.range n).mapM f = some l) : l.length = n ∧ ∀ i, i < n → f i = l[i]? := by
  refine ⟨by simpa using mapM_some_length h, fun i hi => ?_⟩
  exact mapM_some_get h i i (by simp [hi])

section
variable {H : Type} {enc : TypeId × Value → H} {P : Program} {w : World} {base : Nat} {spare : Nat → Bool} {held : Bool}

theorem cells_get {a : Addr} {n : Nat} {cs : List Value} (h : w.cells? base a n = some cs) : cs.length = n ∧ ∀ j, j < n → w.cell? (a.add j) = cs[j]? := by
  unfold World.cells? at h
  split at h
  · exact mapM_get h
  · cases h

/-- A slice that came in: its rows, and what each reads as. -/
theorem read_slice {α : Type} {t e k : Nat} (ht : P.underlying t = some (.slice e)) (hk : P.cellsOf e = k) (hpos : 0 < k) (R : List Value → α → Prop)
    (hel : ∀ (n : Nat) (cs : List Value) (x : DataW H × List MemPlace), cs.length = k → DataW.trod enc P w base spare held n e cs = some x → ∃ a, R cs a)
    {fuel : Nat} {cs : List Value} {x : DataW H × List MemPlace} (h : DataW.trod enc P w base spare held fuel t cs = some x) :
    ∃ (v : Value) (rows : List (List Value)) (xs : List α), cs = [v] ∧ Sl w k v rows.length rows.flatten ∧ (∀ r ∈ rows, r.length = k) ∧ All2 R rows xs := by
  rcases Deep.open_slice ht h with ⟨rfl, _⟩ | ⟨a, len, cap, m, n, D, Pl, rfl, hb, hl, hm, hmm, _, hi⟩
  · exact ⟨_, [], [], rfl, Sl.nil w k, by simp, trivial⟩
  · have hlm : len ≤ m := by rw [hmm]; split <;> omega
    have hi' : ∀ i, i < len → ∃ y : List Value × α, y.1.length = k ∧ (∀ j, j < k → w.cell? (a.add (i * k + j)) = y.1[j]?) ∧ R y.1 y.2 := by
      intro i hlt
      obtain ⟨cs', h1, h2⟩ := hi i (by omega)
      rw [hk] at h1
      obtain ⟨g1, g2⟩ := cells_get h1
      obtain ⟨y, hy⟩ := hel n cs' _ g1 h2
      exact ⟨(cs', y), g1, fun j hj => by rw [← g2 j hj, Deep.add_add], hy⟩
    cases len with
    | zero => exact ⟨_, [], [], rfl, ⟨by simp, some a, cap, rfl, hl, hm, fun h => (by cases h), fun j u h => by simp at h⟩, by simp, trivial⟩
    | succ len =>
      haveI : Inhabited (List Value × α) := ⟨Classical.choose (hi' 0 (by omega))⟩
      obtain ⟨f, hf⟩ := Deep.choose_lt hi'
      refine ⟨_, (List.range (len + 1)).map (fun i => (f i).1), (List.range (len + 1)).map (fun i => (f i).2), rfl, ?_, ?_, ?_⟩
      · have hrk : ∀ r ∈ (List.range (len + 1)).map (fun i => (f i).1), r.length = k := by
          intro r hr
          obtain ⟨i, hi2, rfl⟩ := List.mem_map.1 hr
          exact (hf i (List.mem_range.1 hi2)).1
        have hspot : a.spot = none := by
          obtain ⟨b, o, s⟩ := a
          have h0 := (hf 0 (by omega)).2.1 0 hpos
          have hlen0 := (hf 0 (by omega)).1
          rw [List.getElem?_eq_getElem (by omega)] at h0
          simp only [Nat.zero_mul, Nat.zero_add, Addr.add, if_true] at h0
          cases s with
          | none => rfl
          | some s => unfold World.cell? at h0; split at h0 <;> simp at h0
        obtain ⟨b, o, s⟩ := a
        simp only at hspot
        subst hspot
        rw [List.length_map, List.length_range]
        refine ⟨by simpa using flat_len hrk, _, cap, rfl, hl, hm, fun h => (by cases h), fun j u hj => ?_⟩
        obtain ⟨i, r, m', h1, h2, h3, rfl⟩ := flat_get hrk hj
        rw [List.getElem?_map] at h1
        have hlt : i < len + 1 := by
          rcases Nat.lt_or_ge i (len + 1) with h | h
          · exact h
          · rw [List.getElem?_eq_none (by simpa using h)] at h1; simp at h1
        rw [List.getElem?_eq_getElem (by simpa using hlt)] at h1
        simp only [List.getElem_range, Option.map_some, Option.some.injEq] at h1
        subst h1
        refine ⟨b, o, rfl, ?_⟩
        have := (hf i hlt).2.1 m' h3
        rw [h2] at this
        have hadd : (⟨b, o, none⟩ : Addr).add (i * k + m') = ⟨b, o + (i * k + m'), none⟩ := by unfold Addr.add; split <;> simp_all
        rw [hadd] at this
        exact this
      · intro r hr
        obtain ⟨i, hi2, rfl⟩ := List.mem_map.1 hr
        exact (hf i (List.mem_range.1 hi2)).1
      · exact All2.map _ _ _ fun i hi2 => (hf i (List.mem_range.1 hi2)).2.2
end

section
variable {H : Type} {enc : TypeId × Value → H} {w : World} {base : Nat} {spare : Nat → Bool} {held : Bool}

/-- An item's numbers are in the range of their kinds. -/
def Item.wf (x : Item) : Prop := (0 ≤ x.p ∧ x.p ≤ 255) ∧ (-9223372036854775808 ≤ x.t ∧ x.t ≤ 9223372036854775807) ∧ (-9223372036854775808 ≤ x.c ∧ x.c ≤ 9223372036854775807)

theorem read_item (n : Nat) (cs : List Value) (x : DataW H × List MemPlace) (hl : cs.length = 3) (h : DataW.trod enc Tryd.prog w base spare held n 23 cs = some x) : ∃ a : Item, cs = a.row ∧ a.wf := by
  have c8 : Tryd.prog.cellsOf 5 = 1 := by kernel_rfl
  have c64 : Tryd.prog.cellsOf 3 = 1 := by kernel_rfl
  obtain ⟨xs, m, rfl, rfl, _, hx, hf⟩ := DataW.trod_struct Tryd.underlying23 h
  match cs, hl with
  | [c0, c1, c2], _ =>
    have f0 : DataW.trod enc Tryd.prog w base spare held m 5 (([c0, c1, c2].drop 0).take (Tryd.prog.cellsOf 5)) = xs[0]? := hf 0 _ rfl
    have f1 : DataW.trod enc Tryd.prog w base spare held m 3 (([c0, c1, c2].drop 1).take (Tryd.prog.cellsOf 3)) = xs[1]? := hf 1 _ rfl
    have f2 : DataW.trod enc Tryd.prog w base spare held m 3 (([c0, c1, c2].drop 2).take (Tryd.prog.cellsOf 3)) = xs[2]? := hf 2 _ rfl
    rw [c8] at f0
    rw [c64] at f1 f2
    match xs, hx with
    | [y0, y1, y2], _ =>
      obtain ⟨p, e0, _, w0⟩ := DataW.trod_int Tryd.underlying5 f0
      obtain ⟨t, e1, _, w1⟩ := DataW.trod_int Tryd.underlying3 f1
      obtain ⟨c, e2, _, w2⟩ := DataW.trod_int Tryd.underlying3 f2
      simp at e0 e1 e2
      subst e0 e1 e2
      refine ⟨⟨p, t, c⟩, rfl, ?_, ?_, ?_⟩
      · simpa [Lit.wf, IntKind.min, IntKind.max, IntKind.signed, IntKind.bits] using w0
      · simpa [Lit.wf, IntKind.min, IntKind.max, IntKind.signed, IntKind.bits] using w1
      · simpa [Lit.wf, IntKind.min, IntKind.max, IntKind.signed, IntKind.bits] using w2

theorem rows_of_items : ∀ {rows : List (List Value)} {l : List Item}, All2 (fun cs (a : Item) => cs = a.row ∧ a.wf) rows l → rows.flatten = l.flatMap Item.row ∧ ∀ a ∈ l, a.wf
  | [], [], _ => ⟨rfl, fun _ h => by cases h⟩
  | r :: rows, a :: l, h => by
    obtain ⟨h1, h2⟩ := rows_of_items h.2
    refine ⟨by rw [List.flatten_cons, List.flatMap_cons, h1, h.1.1], fun b hb => ?_⟩
    rcases List.mem_cons.1 hb with rfl | hb
    · exact h.1.2
    · exact h2 b hb

theorem read_items {t : Nat} (ht : Tryd.prog.underlying t = some (.slice 23)) {n : Nat} {cs : List Value} {x : DataW H × List MemPlace} (h : DataW.trod enc Tryd.prog w base spare held n t cs = some x) :
    ∃ (v : Value) (l : List Item), cs = [v] ∧ Its w v l ∧ ∀ a ∈ l, a.wf := by
  obtain ⟨v, rows, l, rfl, hs, _, ha⟩ := read_slice (k := 3) ht (by kernel_rfl) (by omega) (fun cs (a : Item) => cs = a.row ∧ a.wf) (fun n cs x hl h => read_item n cs x hl h) h
  obtain ⟨e, hw⟩ := rows_of_items ha
  refine ⟨v, l, rfl, ?_, hw⟩
  unfold Its
  rw [← e, ← ha.length]
  exact hs

theorem open_items {t : Nat} (ht : Tryd.prog.underlying t = some (.slice 23)) {r : Reach} {b0 : Nat} {v : Value} {d : DataW H} {p : List MemPlace} (hv : Value.okWide Tryd.prog w r b0 t v) (h : DataW.Trod enc Tryd.prog w base spare held t v d p) :
    ∃ l : List Item, Its w v l ∧ ∀ a ∈ l, a.wf := by
  obtain ⟨a0, len, cap, rfl⟩ := okWide_slice ht hv
  obtain ⟨n, hn⟩ := h
  obtain ⟨u, l, e, hl, hw⟩ := read_items ht hn
  simp only [Value.cells, List.cons.injEq, and_true] at e
  subst e
  exact ⟨l, hl, hw⟩

theorem open_item {r : Reach} {b0 : Nat} {v : Value} {d : DataW H} {p : List MemPlace} (hv : Value.okWide Tryd.prog w r b0 23 v) (h : DataW.Trod enc Tryd.prog w base spare held 23 v d p) :
    ∃ x : Item, v = x.val ∧ x.wf := by
  obtain ⟨cs, rfl, hsz⟩ := okWide_struct Tryd.underlying23 hv
  have hc : Tryd.prog.cellsOf 23 = 3 := by kernel_rfl
  obtain ⟨n, hn⟩ := h
  obtain ⟨x, e, hw⟩ := read_item n _ _ (by simp only [Value.cells, Array.length_toList]; exact hsz.trans hc) hn
  refine ⟨x, ?_, hw⟩
  unfold Item.val
  congr 1
  apply Array.toList_inj.1
  simpa [Value.cells, Item.row] using e
end

end Go.Proofs.YtjfkfibhgilolaaDoor

/- How a statement is closed: a call that returns true and only makes memory leaves every argument as it read. -/
namespace Go.Proofs.YtjfkfibhgilolaaDoor
set_option maxRecDepth 100000
open Go.ChangeShapes Go.WideShapes Go.ChangeAt Go.RowKit

theorem Trydown : ownKnob Tryd.prog.godebug = none := by kernel_rfl
theorem TrydlaidOut : laidOutB Tryd.prog = true := by kernel_rfl

section
variable {H : Type} {enc : TypeId × Value → H} {P : Program}

theorem trodAll_stays (hl : laidOutB P = true) {W W' : World} (hb : Below W.heap.size W W') : ∀ (ts : List TypeId) (vs : List Value) (ds : List (DataW H)) (ps : List MemPlace), (∀ t ∈ ts, P.readableRec t = true ∧ t < P.types.size) → (∀ x ∈ ps, x.block < W.heap.size) →
    DataW.TrodAll enc P W 0 (fun _ => true) true ts vs ds ps → DataW.TrodAll enc P W' 0 (fun b => decide (b < W.heap.size)) true ts vs ds ps
  | [], [], [], ps, _, _, h => h
  | t :: ts, v :: vs, d :: ds, ps, hr, hlt, h => by
    obtain ⟨p, q, h1, h2, rfl⟩ := h
    refine ⟨p, q, Below.trod hl (hr t (by simp)).1 (hr t (by simp)).2 h1 hb (fun x hx => hlt x (by simp [hx])), trodAll_stays hl hb ts vs ds q (fun t ht => hr t (by simp [ht])) (fun x hx => hlt x (by simp [hx])) h2, rfl⟩
  | [], _ :: _, _, _, _, _, h => h.elim
  | [], [], _ :: _, _, _, _, h => h.elim
  | _ :: _, [], _, _, _, _, h => h.elim
  | _ :: _, _ :: _, [], _, _, _, h => h.elim

theorem trodAll_len {W : World} : ∀ (ts : List TypeId) (vs : List Value) (ds : List (DataW H)) (ps : List MemPlace), DataW.TrodAll enc P W 0 (fun _ => true) true ts vs ds ps → ds.length = ts.length
  | [], [], [], _, _ => rfl
  | _ :: ts, _ :: vs, _ :: ds, _, h => by
    obtain ⟨p, q, _, h2, _⟩ := h
    simp [trodAll_len ts vs ds q h2]
  | [], _ :: _, _, _, h => h.elim
  | [], [], _ :: _, _, h => h.elim
  | _ :: _, [], _, _, h => h.elim
  | _ :: _, _ :: _, [], _, h => h.elim

theorem post_law (hl : laidOutB P = true) {f : Func} {s : ChangeSpec} {tb : TypeId} (hres : f.resultTypes = #[tb]) (htb : P.underlying tb = some .bool) (hrd : f.params.toList.all (fun t => P.readableRec t && decide (t < P.types.size)) = true) (hv : s.vars = [])
    (hs : ∀ ds : List (DataW H), ds.length = f.params.size → s.fn H ds = { results := [.lit (.bool true)], args := ds, vars := [] }) {fresh handsOn : Bool} {W W' : World} {args : Array Value} {ds gs : List (DataW H)} {before : List MemPlace}
    (hW : DataW.Whole enc P f.params.toList s.vars false W args.toList ds gs before) (hb : Below W.heap.size W W') :
    s.post enc P f false fresh handsOn false W args (.bool true) W' := by
  have hW' := hW
  have hlt := hW.lt
  obtain ⟨p, q, hA, hV, rfl, hz, hn⟩ := hW
  rw [hv] at hV
  have hgs : gs = [] := by cases gs <;> simp_all [DataW.TrodVars]
  subst hgs
  have hq : q = [] := hV
  subst hq
  have hlen := trodAll_len _ _ _ _ hA
  have hfn := hs ds (by simpa using hlen)
  refine ⟨ds, [], p ++ [], [], p, [], hW', ?_, ?_, ?_, Below.frame hb _, fun h => by cases h⟩
  · rw [List.append_nil, hfn, hres]
    exact trodAll_mk1 (shut_bool htb true)
  · rw [List.append_nil, hfn]
    refine trodAll_stays hl hb _ _ _ _ (fun t ht => ?_) (fun x hx => hlt x (by simp [hx])) hA
    have := List.all_eq_true.1 hrd t ht
    simpa using this
  · rw [List.append_nil, hfn, hv]
    rfl
end

end Go.Proofs.YtjfkfibhgilolaaDoor

/- How a statement is closed whose row lists the variable perms: what it holds at the start. -/
namespace Go.Proofs.YtjfkfibhgilolaaDoor
set_option maxRecDepth 100000
open Go.ChangeShapes Go.WideShapes Go.ChangeAt Go.RowKit

theorem u8B_of {x : Int} (h : (Lit.int .u8 x).wf = true) : u8B x := by simpa [Lit.wf, IntKind.min, IntKind.max, IntKind.signed, IntKind.bits, u8B] using h
theorem i64B_of {x : Int} (h : (Lit.int .i64 x).wf = true) : i64B x := by simpa [Lit.wf, IntKind.min, IntKind.max, IntKind.signed, IntKind.bits, i64B] using h

theorem gPerms : Tryd.prog.globalNamed "pawnshop/grant.perms" = some 0 := by kernel_rfl
theorem gPermsType : (Tryd.prog.globals[0]?).map (·.type) = some 84 := by kernel_rfl
theorem cellsPerms : Tryd.prog.cellsOf 84 = 5 := by kernel_rfl
theorem cellsU8 : Tryd.prog.cellsOf 5 = 1 := by kernel_rfl

theorem perms_of_laid {W : World} (h : laidMetH Tryd.prog [("pawnshop/grant.perms", Rows.laid_pawnshop_grant_perms)] W) : Perms W := by
  have hT : Lib.TabIs Tryd.prog W "pawnshop/grant.perms" .u8 [0, 4, 1, 2, 3] := Lib.tabIs_of_head (rest := []) gPerms gPermsType Tryd.underlying84 Tryd.underlying5 cellsU8 cellsPerms h
  exact ⟨hT.cell gPerms 0 (by decide), hT.cell gPerms 1 (by decide), hT.cell gPerms 2 (by decide), hT.cell gPerms 3 (by decide), hT.cell gPerms 4 (by decide)⟩

/-- A world for the witness: the settled one, in which perms holds what its initialiser lays. -/
noncomputable def doorWorld (os : Os) : World :=
  { World.holding Tryd.prog os ⟨#[], #[], []⟩ with heap := (World.holding Tryd.prog os ⟨#[], #[], []⟩).heap.modify 0 fun
      | .cells _ t frozen => .cells #[.int .u8 0, .int .u8 4, .int .u8 1, .int .u8 2, .int .u8 3] t frozen
      | o => o }

end Go.Proofs.YtjfkfibhgilolaaDoor

/- Contracts: the helpers of the statements of layer 30; the plain laws that they need. -/
namespace Go.Proofs.YtjfkfibhgilolaaDoor
set_option maxRecDepth 100000
open Go.ChangeShapes Go.WideShapes Go.ChangeAt Go.RowKit


/-- What retagging leaves, if there is no error. -/
theorem retag_spec {l R G : List Item} {k old why : Int} {x : Item} (hok : okS l = true) (h : retagR l k old x = (R, G, why, 0)) :
    kindErr k = 0 ∧ kindOk k = true ∧ why = usedW l old (writesOf k) ∧ argOk x = true ∧
      ((why = 1 ∧ R = [] ∧ G = []) ∨ (why = 0 ∧ R = usedL l old (writesOf k) ++ [⟨permOf k, x.t, x.c⟩] ∧ G = usedG l old (writesOf k) ∧ ¬ (usedL l old (writesOf k)).length = 600)) := by
  cases ha : kindOk k && argOk x
  · rw [retagR_arg hok ha] at h
    simp at h
  · have ha' := ha
    rw [Bool.and_eq_true] at ha'
    rcases usedW_cases l old (writesOf k) with ⟨hu, -⟩ | ⟨hu, -⟩
    · by_cases hf : (usedL l old (writesOf k)).length = 600
      · rw [retagR_full hok ha hu hf] at h
        simp at h
      · rw [retagR_yes hok ha hu hf] at h
        simp only [Prod.mk.injEq, and_true] at h
        obtain ⟨rfl, rfl, rfl⟩ := h
        exact ⟨kindErr_yes ha'.1, ha'.1, hu.symm, ha'.2, .inr ⟨rfl, rfl, rfl, hf⟩⟩
    · rw [retagR_no hok ha (by rw [hu]; decide), hu] at h
      simp only [Prod.mk.injEq, and_true] at h
      obtain ⟨rfl, rfl, rfl⟩ := h
      exact ⟨kindErr_yes ha'.1, ha'.1, hu.symm, ha'.2, .inl ⟨rfl, rfl, rfl⟩⟩

theorem usedL_pos {l : List Item} {tag : Int} {write : Bool} (h : usedW l tag write = 0) : 1 ≤ (usedL l tag write).length := by
  unfold usedW at h
  unfold usedL
  cases hf : findAt l tag write with
  | none => simp [hf] at h
  | some i =>
    have := useLeft_pos (write := write) (findAt_is hf)
    exact this

theorem findAt_top {M : List Item} {n : Item} {tag : Int} {write : Bool} (h : grants tag write n = true) : findAt (M ++ [n]) tag write = some M.length := by
  refine findAt_some (x := n) (by simp) h ?_
  intro j y hj hy
  have := (List.getElem?_eq_some_iff.1 hy).1
  simp at this
  omega

set_option maxHeartbeats 800000 in
theorem law30_leaves {l want gone : List Item} {k : Int} {v v1 v2 : Value} {w : World} (hp : Perms w) (hk : u8B k) (old tag : Int) (hl : Its w v l) (hw : Its w v1 want) (hg : Its w v2 gone) (h : retagR l k old ⟨0, tag, 0⟩ = (want, gone, 0, 0)) :
    Calls Tryd.prog 57 #[v, .int .u8 k, .int .i64 old, .int .i64 tag, v1, v2] w fun e w' => e = .returned (.bool true) ∧ Ext w w' := by
  have hL := hl
  have hF0 := Ext.refl w
  obtain ⟨a, cp, rfl, -⟩ := hl.form
  obtain ⟨a1, c1, rfl, -⟩ := hw.form
  obtain ⟨a2, c2, rfl, -⟩ := hg.form
  replace h := Lib.hid h
  clear hl
  go_enter Tryd.func57, Tryd.ntmps57
  go_wp2_with fail
  refine (grant_RetagO hp hk old ⟨0, tag, 0⟩ hL).mono ?_
  rintro e w1 ⟨va, vb, rfl, oa, ob, -, hE1⟩
  have hF1 := hF0.trans hE1
  replace hw := hw.ext hE1
  replace hg := hg.ext hE1
  have ha : Its w1 va want := by rw [h.out] at oa; exact oa.sl
  have hb : Its w1 vb gone := by rw [h.out] at ob; exact ob.sl
  rw [h.out]
  clear oa ob
  obtain ⟨aa, ca, rfl, -⟩ := ha.form
  obtain ⟨ab, cb, rfl, -⟩ := hb.form
  go_wp2_with fail
  refine (ref28_Same_yes ha hw).mono ?_
  rintro e w2 ⟨rfl, hE2⟩
  have hF2 := hF1.trans hE2
  replace hw := hw.ext hE2
  replace hg := hg.ext hE2
  replace ha := ha.ext hE2
  replace hb := hb.ext hE2
  go_wp2_with fail
  refine (ref28_Same_yes hb hg).mono ?_
  rintro e w3 ⟨rfl, hE3⟩
  have hF3 := hF2.trans hE3
  replace hw := hw.ext hE3
  replace hg := hg.ext hE3
  replace ha := ha.ext hE3
  replace hb := hb.ext hE3
  go_wp2
  go_ret
  exact ⟨rfl, hF3⟩

def b30 : Item := ⟨1, 1, 0⟩
def t30 : Item := ⟨1, 2, 0⟩
def s30 : Item := ⟨4, 3, 0⟩
def r30 : Item := ⟨2, 4, 0⟩
theorem exam30_a : retagR [b30] 2 1 ⟨0, 2, 0⟩ = ([b30, t30], [], 0, 0) := by decide
theorem exam30_b : retagR [b30, t30] 1 2 ⟨0, 3, 0⟩ = ([b30, t30, s30], [], 0, 0) := by decide
theorem exam30_c : retagR [b30, t30, s30] 3 1 ⟨0, 4, 0⟩ = ([b30, s30, r30], [t30], 0, 0) := by decide

set_option maxHeartbeats 1600000 in
theorem law30_alive {w : World} (hp : Perms w) : Calls Tryd.prog 18 #[] w fun e w' => e = .returned (.bool true) ∧ Ext w w' := by
  have hF : Ext w (World.alloc (World.alloc (World.alloc w (.cells #[.int .u8 1, .int .i64 1, .int .i64 0] 23)) (.cells #[.int .u8 1, .int .i64 2, .int .i64 0] 23)) (.cells #[.int .u8 4, .int .i64 3, .int .i64 0] 23)) := ((((Ext.refl w).alloc _).alloc _).alloc _)
  have hP := hp.ext hF
  have bA := ((Box.new w 23 #[.int .u8 1, .int .i64 1, .int .i64 0]).ext ((Ext.refl _).alloc (.cells #[.int .u8 1, .int .i64 2, .int .i64 0] 23))).ext ((Ext.refl _).alloc (.cells #[.int .u8 4, .int .i64 3, .int .i64 0] 23))
  have bB := (Box.new (World.alloc w (.cells #[.int .u8 1, .int .i64 1, .int .i64 0] 23)) 23 #[.int .u8 1, .int .i64 2, .int .i64 0]).ext ((Ext.refl _).alloc (.cells #[.int .u8 4, .int .i64 3, .int .i64 0] 23))
  have bC := Box.new (World.alloc (World.alloc w (.cells #[.int .u8 1, .int .i64 1, .int .i64 0] 23)) (.cells #[.int .u8 1, .int .i64 2, .int .i64 0] 23)) 23 #[.int .u8 4, .int .i64 3, .int .i64 0]
  rw [World.size_alloc] at bB bC
  rw [World.size_alloc] at bC
  have h_a := Lib.hid exam30_a
  have h_b := Lib.hid exam30_b
  have h_c := Lib.hid exam30_c
  go_enter Tryd.func18, Tryd.ntmps18
  have bA_0 : World.cell? (World.alloc (World.alloc (World.alloc w (.cells #[.int .u8 1, .int .i64 1, .int .i64 0] 23)) (.cells #[.int .u8 1, .int .i64 2, .int .i64 0] 23)) (.cells #[.int .u8 4, .int .i64 3, .int .i64 0] 23)) ⟨w.heap.size, 0, none⟩ = some (.int .u8 1) := bA.cell 0
  have bA_1 : World.cell? (World.alloc (World.alloc (World.alloc w (.cells #[.int .u8 1, .int .i64 1, .int .i64 0] 23)) (.cells #[.int .u8 1, .int .i64 2, .int .i64 0] 23)) (.cells #[.int .u8 4, .int .i64 3, .int .i64 0] 23)) ⟨w.heap.size, 1, none⟩ = some (.int .i64 1) := bA.cell 1
  have bA_2 : World.cell? (World.alloc (World.alloc (World.alloc w (.cells #[.int .u8 1, .int .i64 1, .int .i64 0] 23)) (.cells #[.int .u8 1, .int .i64 2, .int .i64 0] 23)) (.cells #[.int .u8 4, .int .i64 3, .int .i64 0] 23)) ⟨w.heap.size, 2, none⟩ = some (.int .i64 0) := bA.cell 2
  have bA_l := bA.lt
  have bB_0 : World.cell? (World.alloc (World.alloc (World.alloc w (.cells #[.int .u8 1, .int .i64 1, .int .i64 0] 23)) (.cells #[.int .u8 1, .int .i64 2, .int .i64 0] 23)) (.cells #[.int .u8 4, .int .i64 3, .int .i64 0] 23)) ⟨w.heap.size + 1, 0, none⟩ = some (.int .u8 1) := bB.cell 0
  have bB_1 : World.cell? (World.alloc (World.alloc (World.alloc w (.cells #[.int .u8 1, .int .i64 1, .int .i64 0] 23)) (.cells #[.int .u8 1, .int .i64 2, .int .i64 0] 23)) (.cells #[.int .u8 4, .int .i64 3, .int .i64 0] 23)) ⟨w.heap.size + 1, 1, none⟩ = some (.int .i64 2) := bB.cell 1
  have bB_2 : World.cell? (World.alloc (World.alloc (World.alloc w (.cells #[.int .u8 1, .int .i64 1, .int .i64 0] 23)) (.cells #[.int .u8 1, .int .i64 2, .int .i64 0] 23)) (.cells #[.int .u8 4, .int .i64 3, .int .i64 0] 23)) ⟨w.heap.size + 1, 2, none⟩ = some (.int .i64 0) := bB.cell 2
  have bB_l := bB.lt
  have bC_0 : World.cell? (World.alloc (World.alloc (World.alloc w (.cells #[.int .u8 1, .int .i64 1, .int .i64 0] 23)) (.cells #[.int .u8 1, .int .i64 2, .int .i64 0] 23)) (.cells #[.int .u8 4, .int .i64 3, .int .i64 0] 23)) ⟨w.heap.size + 1 + 1, 0, none⟩ = some (.int .u8 4) := bC.cell 0
  have bC_1 : World.cell? (World.alloc (World.alloc (World.alloc w (.cells #[.int .u8 1, .int .i64 1, .int .i64 0] 23)) (.cells #[.int .u8 1, .int .i64 2, .int .i64 0] 23)) (.cells #[.int .u8 4, .int .i64 3, .int .i64 0] 23)) ⟨w.heap.size + 1 + 1, 1, none⟩ = some (.int .i64 3) := bC.cell 1
  have bC_2 : World.cell? (World.alloc (World.alloc (World.alloc w (.cells #[.int .u8 1, .int .i64 1, .int .i64 0] 23)) (.cells #[.int .u8 1, .int .i64 2, .int .i64 0] 23)) (.cells #[.int .u8 4, .int .i64 3, .int .i64 0] 23)) ⟨w.heap.size + 1 + 1, 2, none⟩ = some (.int .i64 0) := bC.cell 2
  have bC_l := bC.lt
  go_wp2_with fail
  clear bA_0 bA_1 bA_2 bA_l
  clear bB_0 bB_1 bB_2 bB_l
  clear bC_0 bC_1 bC_2 bC_l
  refine (law30_leaves (hP.ext (by repeat (first | exact Ext.refl _ | apply Ext.alloc | apply Ext.drew))) (k := 2) (by unfold u8B; decide) 1 2 (by (repeat (first | exact Its.nil _ | exact Its.lit _ _ _ _ _ (by simp) rfl (by simp [maxLen]) rfl | refine Its.ext ?_ (Ext.refl _).drew | refine Its.ext ?_ ((Ext.refl _).alloc _) | refine Its.ext ?_ (by assumption)))) (by (repeat (first | exact Its.nil _ | exact Its.lit _ _ _ _ _ (by simp) rfl (by simp [maxLen]) rfl | refine Its.ext ?_ (Ext.refl _).drew | refine Its.ext ?_ ((Ext.refl _).alloc _) | refine Its.ext ?_ (by assumption)))) (by (repeat (first | exact Its.nil _ | exact Its.lit _ _ _ _ _ (by simp) rfl (by simp [maxLen]) rfl | refine Its.ext ?_ (Ext.refl _).drew | refine Its.ext ?_ ((Ext.refl _).alloc _) | refine Its.ext ?_ (by assumption)))) h_a.out).mono ?_
  rintro e w1 ⟨rfl, hZ0⟩
  have hE0 : Ext (World.alloc (World.alloc (World.alloc w (.cells #[.int .u8 1, .int .i64 1, .int .i64 0] 23)) (.cells #[.int .u8 1, .int .i64 2, .int .i64 0] 23)) (.cells #[.int .u8 4, .int .i64 3, .int .i64 0] 23)) w1 := Ext.trans (by repeat (first | exact Ext.refl _ | apply Ext.alloc | apply Ext.drew)) hZ0
  replace hP := hP.ext hE0
  replace bA := bA.ext hE0
  replace bB := bB.ext hE0
  replace bC := bC.ext hE0
  have hF0 := Ext.trans (hF) hE0
  have bA_0 : World.cell? w1 ⟨w.heap.size, 0, none⟩ = some (.int .u8 1) := bA.cell 0
  have bA_1 : World.cell? w1 ⟨w.heap.size, 1, none⟩ = some (.int .i64 1) := bA.cell 1
  have bA_2 : World.cell? w1 ⟨w.heap.size, 2, none⟩ = some (.int .i64 0) := bA.cell 2
  have bA_l := bA.lt
  have bB_0 : World.cell? w1 ⟨w.heap.size + 1, 0, none⟩ = some (.int .u8 1) := bB.cell 0
  have bB_1 : World.cell? w1 ⟨w.heap.size + 1, 1, none⟩ = some (.int .i64 2) := bB.cell 1
  have bB_2 : World.cell? w1 ⟨w.heap.size + 1, 2, none⟩ = some (.int .i64 0) := bB.cell 2
  have bB_l := bB.lt
  have bC_0 : World.cell? w1 ⟨w.heap.size + 1 + 1, 0, none⟩ = some (.int .u8 4) := bC.cell 0
  have bC_1 : World.cell? w1 ⟨w.heap.size + 1 + 1, 1, none⟩ = some (.int .i64 3) := bC.cell 1
  have bC_2 : World.cell? w1 ⟨w.heap.size + 1 + 1, 2, none⟩ = some (.int .i64 0) := bC.cell 2
  have bC_l := bC.lt
  go_wp2_with fail
  clear bA_0 bA_1 bA_2 bA_l
  clear bB_0 bB_1 bB_2 bB_l
  clear bC_0 bC_1 bC_2 bC_l
  refine (law30_leaves (hP.ext (by repeat (first | exact Ext.refl _ | apply Ext.alloc | apply Ext.drew))) (k := 1) (by unfold u8B; decide) 2 3 (by (repeat (first | exact Its.nil _ | exact Its.lit _ _ _ _ _ (by simp) rfl (by simp [maxLen]) rfl | refine Its.ext ?_ (Ext.refl _).drew | refine Its.ext ?_ ((Ext.refl _).alloc _) | refine Its.ext ?_ (by assumption)))) (by (repeat (first | exact Its.nil _ | exact Its.lit _ _ _ _ _ (by simp) rfl (by simp [maxLen]) rfl | refine Its.ext ?_ (Ext.refl _).drew | refine Its.ext ?_ ((Ext.refl _).alloc _) | refine Its.ext ?_ (by assumption)))) (by (repeat (first | exact Its.nil _ | exact Its.lit _ _ _ _ _ (by simp) rfl (by simp [maxLen]) rfl | refine Its.ext ?_ (Ext.refl _).drew | refine Its.ext ?_ ((Ext.refl _).alloc _) | refine Its.ext ?_ (by assumption)))) h_b.out).mono ?_
  rintro e w2 ⟨rfl, hZ1⟩
  have hE1 : Ext w1 w2 := Ext.trans (by repeat (first | exact Ext.refl _ | apply Ext.alloc | apply Ext.drew)) hZ1
  replace hP := hP.ext hE1
  replace bA := bA.ext hE1
  replace bB := bB.ext hE1
  replace bC := bC.ext hE1
  have hF1 := Ext.trans (hF0) hE1
  have bA_0 : World.cell? w2 ⟨w.heap.size, 0, none⟩ = some (.int .u8 1) := bA.cell 0
  have bA_1 : World.cell? w2 ⟨w.heap.size, 1, none⟩ = some (.int .i64 1) := bA.cell 1
  have bA_2 : World.cell? w2 ⟨w.heap.size, 2, none⟩ = some (.int .i64 0) := bA.cell 2
  have bA_l := bA.lt
  have bB_0 : World.cell? w2 ⟨w.heap.size + 1, 0, none⟩ = some (.int .u8 1) := bB.cell 0
  have bB_1 : World.cell? w2 ⟨w.heap.size + 1, 1, none⟩ = some (.int .i64 2) := bB.cell 1
  have bB_2 : World.cell? w2 ⟨w.heap.size + 1, 2, none⟩ = some (.int .i64 0) := bB.cell 2
  have bB_l := bB.lt
  have bC_0 : World.cell? w2 ⟨w.heap.size + 1 + 1, 0, none⟩ = some (.int .u8 4) := bC.cell 0
  have bC_1 : World.cell? w2 ⟨w.heap.size + 1 + 1, 1, none⟩ = some (.int .i64 3) := bC.cell 1
  have bC_2 : World.cell? w2 ⟨w.heap.size + 1 + 1, 2, none⟩ = some (.int .i64 0) := bC.cell 2
  have bC_l := bC.lt
  go_wp2_with fail
  clear bA_0 bA_1 bA_2 bA_l
  clear bB_0 bB_1 bB_2 bB_l
  clear bC_0 bC_1 bC_2 bC_l
  refine (law30_leaves (hP.ext (by repeat (first | exact Ext.refl _ | apply Ext.alloc | apply Ext.drew))) (k := 3) (by unfold u8B; decide) 1 4 (by (repeat (first | exact Its.nil _ | exact Its.lit _ _ _ _ _ (by simp) rfl (by simp [maxLen]) rfl | refine Its.ext ?_ (Ext.refl _).drew | refine Its.ext ?_ ((Ext.refl _).alloc _) | refine Its.ext ?_ (by assumption)))) (by (repeat (first | exact Its.nil _ | exact Its.lit _ _ _ _ _ (by simp) rfl (by simp [maxLen]) rfl | refine Its.ext ?_ (Ext.refl _).drew | refine Its.ext ?_ ((Ext.refl _).alloc _) | refine Its.ext ?_ (by assumption)))) (by (repeat (first | exact Its.nil _ | exact Its.lit _ _ _ _ _ (by simp) rfl (by simp [maxLen]) rfl | refine Its.ext ?_ (Ext.refl _).drew | refine Its.ext ?_ ((Ext.refl _).alloc _) | refine Its.ext ?_ (by assumption)))) h_c.out).mono ?_
  rintro e w3 ⟨rfl, hZ2⟩
  have hE2 : Ext w2 w3 := Ext.trans (by repeat (first | exact Ext.refl _ | apply Ext.alloc | apply Ext.drew)) hZ2
  replace hP := hP.ext hE2
  replace bA := bA.ext hE2
  replace bB := bB.ext hE2
  replace bC := bC.ext hE2
  have hF2 := Ext.trans (hF1) hE2
  go_wp2
  go_ret
  exact ⟨rfl, hF2⟩

end Go.Proofs.YtjfkfibhgilolaaDoor

/- Plain laws of layer 29: how an access parts a stack, index by index. -/
namespace Go.Proofs.YtjfkfibhgilolaaDoor
set_option maxRecDepth 100000
open Go.RowKit

/-- How many of the first k items stay, and how many go. -/
def cN (l : List Item) (i : Nat) (q : Item → Bool) (k : Nat) : Nat := if k ≤ i + 1 then k else i + 1 + (((l.drop (i + 1)).take (k - (i + 1))).filter (fun x => !q x)).length
def cM (l : List Item) (i : Nat) (q : Item → Bool) (k : Nat) : Nat := if k ≤ i + 1 then 0 else (((l.drop (i + 1)).take (k - (i + 1))).filter q).length

theorem filter_take_get {α : Type} {n : List α} {q : α → Bool} {j : Nat} {y : α} (hy : n[j]? = some y) (hq : q y = true) : (n.filter q)[((n.take j).filter q).length]? = some y := by
  have h : n = n.take j ++ y :: n.drop (j + 1) := by
    obtain ⟨hj, rfl⟩ := List.getElem?_eq_some_iff.1 hy
    rw [← List.drop_eq_getElem_cons hj, List.take_append_drop]
  have h2 : n.filter q = (n.take j).filter q ++ y :: (n.drop (j + 1)).filter q := by
    conv => lhs; rw [h]
    rw [List.filter_append, List.filter_cons, if_pos hq]
  rw [h2, List.getElem?_append_right (Nat.le_refl _), Nat.sub_self]
  rfl
theorem filter_take_yes {α : Type} {n : List α} {q : α → Bool} {j : Nat} {y : α} (hy : n[j]? = some y) (hq : q y = true) : ((n.take (j + 1)).filter q).length = ((n.take j).filter q).length + 1 := by
  rw [List.take_add_one, hy, List.filter_append]; simp [hq]
theorem filter_take_no {α : Type} {n : List α} {q : α → Bool} {j : Nat} {y : α} (hy : n[j]? = some y) (hq : q y = false) : ((n.take (j + 1)).filter q).length = ((n.take j).filter q).length := by
  rw [List.take_add_one, hy, List.filter_append]; simp [hq]

theorem parts_low {l M left : List Item} {i : Nat} {q : Item → Bool} (hM : M.length = i + 1) (hl : left = M ++ (l.drop (i + 1)).filter (fun x => !q x)) {k : Nat} (hk : k ≤ i) :
    left[cN l i q k]? = M[k]? ∧ cN l i q (k + 1) = cN l i q k + 1 ∧ cM l i q (k + 1) = cM l i q k := by
  unfold cN cM
  rw [if_pos (by omega), if_pos (by omega), if_pos (by omega), if_pos (by omega), hl, List.getElem?_append_left (by omega)]
  exact ⟨rfl, rfl, rfl⟩

theorem cN_high {l : List Item} {i : Nat} {q : Item → Bool} {k : Nat} (hk : i < k) : cN l i q k = i + 1 + (((l.drop (i + 1)).take (k - (i + 1))).filter (fun x => !q x)).length := by
  unfold cN
  split
  · have : k = i + 1 := by omega
    subst this
    simp
  · rfl
theorem cM_high {l : List Item} {i : Nat} {q : Item → Bool} {k : Nat} (hk : i < k) : cM l i q k = (((l.drop (i + 1)).take (k - (i + 1))).filter q).length := by
  unfold cM
  split
  · have : k = i + 1 := by omega
    subst this
    simp
  · rfl

theorem parts_stay {l M left : List Item} {i : Nat} {q : Item → Bool} (hM : M.length = i + 1) (hl : left = M ++ (l.drop (i + 1)).filter (fun x => !q x)) {k : Nat} {x : Item} (hx : l[k]? = some x) (hk : i < k) (hq : q x = false) :
    left[cN l i q k]? = some x ∧ cN l i q (k + 1) = cN l i q k + 1 ∧ cM l i q (k + 1) = cM l i q k := by
  have hy : (l.drop (i + 1))[k - (i + 1)]? = some x := by rw [List.getElem?_drop, show i + 1 + (k - (i + 1)) = k by omega]; exact hx
  rw [cN_high hk, cN_high (k := k + 1) (by omega), cM_high hk, cM_high (k := k + 1) (by omega), show k + 1 - (i + 1) = k - (i + 1) + 1 by omega, filter_take_yes (q := fun x => !q x) hy (by simp [hq]), filter_take_no hy hq]
  refine ⟨?_, by omega, rfl⟩
  rw [hl, List.getElem?_append_right (by omega), hM, Nat.add_sub_cancel_left]
  exact filter_take_get (q := fun x => !q x) hy (by simp [hq])

theorem parts_go {l gone : List Item} {i : Nat} {q : Item → Bool} (hg : gone = (l.drop (i + 1)).filter q) {k : Nat} {x : Item} (hx : l[k]? = some x) (hk : i < k) (hq : q x = true) :
    gone[cM l i q k]? = some x ∧ cN l i q (k + 1) = cN l i q k ∧ cM l i q (k + 1) = cM l i q k + 1 := by
  have hy : (l.drop (i + 1))[k - (i + 1)]? = some x := by rw [List.getElem?_drop, show i + 1 + (k - (i + 1)) = k by omega]; exact hx
  rw [cN_high hk, cN_high (k := k + 1) (by omega), cM_high hk, cM_high (k := k + 1) (by omega), show k + 1 - (i + 1) = k - (i + 1) + 1 by omega, filter_take_no (q := fun x => !q x) hy (by simp [hq]), filter_take_yes hy hq]
  refine ⟨?_, rfl, rfl⟩
  rw [hg]
  exact filter_take_get hy hq

theorem parts_zero (l : List Item) (i : Nat) (q : Item → Bool) : cN l i q 0 = 0 ∧ cM l i q 0 = 0 := by simp [cN, cM]
theorem parts_end {l M left gone : List Item} {i : Nat} {q : Item → Bool} (hi : i < l.length) (hM : M.length = i + 1) (hl : left = M ++ (l.drop (i + 1)).filter (fun x => !q x)) (hg : gone = (l.drop (i + 1)).filter q) :
    cN l i q l.length = left.length ∧ cM l i q l.length = gone.length ∧ left.length + gone.length = l.length := by
  have ht : (l.drop (i + 1)).take (l.length - (i + 1)) = l.drop (i + 1) := List.take_of_length_le (by simp)
  rw [cN_high hi, cM_high hi, ht, hl, hg, List.length_append, hM]
  refine ⟨rfl, rfl, ?_⟩
  have h1 : ∀ n : List Item, (n.filter (fun x => !q x)).length + (n.filter q).length = n.length := by
    intro n
    induction n with
    | nil => rfl
    | cons y n ih => cases hq : q y <;> simp [hq] <;> omega
  have := h1 (l.drop (i + 1))
  rw [List.length_drop] at this
  omega

theorem actAt_get_ne {m : List Item} {i k : Nat} (h : k ≠ i) : (actAt m i)[k]? = m[k]? := by
  unfold actAt
  split
  · split
    · exact List.getElem?_set_ne (fun e => h e.symm)
    · rfl
  · rfl
theorem actAt_get_yes {m : List Item} {i : Nat} {x : Item} (hx : m[i]? = some x) (hp : x.p = 2) : (actAt m i)[i]? = some ⟨1, x.t, x.c⟩ := by
  unfold actAt
  rw [hx]
  simp only [hp, if_true]
  rw [List.getElem?_set_self (List.getElem?_eq_some_iff.1 hx).1]
theorem actAt_get_no {m : List Item} {i : Nat} {x : Item} (hx : m[i]? = some x) (hp : x.p ≠ 2) : (actAt m i)[i]? = some x := by
  unfold actAt
  rw [hx]
  simp only [hp, if_false]
  exact hx

end Go.Proofs.YtjfkfibhgilolaaDoor

/- Plain law of layer 31: what is held stays, in order. No program in sight. -/
namespace Go.Proofs.YtjfkfibhgilolaaDoor
set_option maxRecDepth 100000
open Go.RowKit

/-- y is x, or what a reserved x becomes. -/
def Same1 (x y : Item) : Prop := y = x ∨ (x.p = 2 ∧ y = ⟨1, x.t, x.c⟩)
/-- The held items of l stand in T, in order: that at k stands at pos k. -/
structure Emb (l T : List Item) (held : Item → Bool) (pos : Nat → Nat) : Prop where
  zero : pos 0 = 0
  up : ∀ (k : Nat) (x : Item), l[k]? = some x → pos k ≤ pos (k + 1)
  at_ : ∀ (k : Nat) (x : Item), l[k]? = some x → held x = true → pos (k + 1) = pos k + 1 ∧ ∃ y, T[pos k]? = some y ∧ Same1 x y

theorem emb_of {l M gone suf : List Item} {i : Nat} {q held : Item → Bool} (hM : M.length = i + 1) (hMk : ∀ (k : Nat) (x : Item), k ≤ i → l[k]? = some x → ∃ y, M[k]? = some y ∧ Same1 x y)
    (hg : gone = (l.drop (i + 1)).filter q) (hh : ∀ x ∈ gone, held x = false) : Emb l (M ++ (l.drop (i + 1)).filter (fun x => !q x) ++ suf) held (cN l i q) := by
  obtain ⟨left, hl⟩ : ∃ left, left = M ++ (l.drop (i + 1)).filter (fun x => !q x) := ⟨_, rfl⟩
  rw [← hl]
  have app : ∀ {j : Nat} {y : Item}, left[j]? = some y → (left ++ suf)[j]? = some y := fun {j y} h => by
    rw [List.getElem?_append_left (List.getElem?_eq_some_iff.1 h).1]; exact h
  have step : ∀ (k : Nat) (x : Item), l[k]? = some x → (k ≤ i ∧ cN l i q (k + 1) = cN l i q k + 1 ∧ left[cN l i q k]? = M[k]?) ∨ (i < k ∧ q x = false ∧ cN l i q (k + 1) = cN l i q k + 1 ∧ left[cN l i q k]? = some x) ∨ (held x = false ∧ cN l i q (k + 1) = cN l i q k) := by
    intro k x hx
    by_cases hk : k ≤ i
    · obtain ⟨h1, h2, -⟩ := parts_low hM hl hk
      exact .inl ⟨hk, h2, h1⟩
    · cases hq : q x
      · obtain ⟨h1, h2, -⟩ := parts_stay hM hl hx (by omega) hq
        exact .inr (.inl ⟨by omega, rfl, h2, h1⟩)
      · obtain ⟨h1, h2, -⟩ := parts_go hg hx (by omega) hq
        exact .inr (.inr ⟨hh x (List.mem_of_getElem? h1), h2⟩)
  refine ⟨(parts_zero l i q).1, fun k x hx => ?_, fun k x hx hheld => ?_⟩
  · rcases step k x hx with ⟨-, h, -⟩ | ⟨-, -, h, -⟩ | ⟨-, h⟩ <;> omega
  · rcases step k x hx with ⟨hk, h, h2⟩ | ⟨-, -, h, h2⟩ | ⟨h, -⟩
    · obtain ⟨y, hy, hs⟩ := hMk k x hk hx
      exact ⟨h, y, app (h2.trans hy), hs⟩
    · exact ⟨h, x, app h2, .inl rfl⟩
    · rw [hheld] at h; cases h

theorem take_same {l : List Item} {i k : Nat} {x : Item} (hk : k ≤ i) (hx : l[k]? = some x) : (l.take (i + 1))[k]? = some x := by rw [List.getElem?_take, if_pos (by omega)]; exact hx

theorem use_emb {l : List Item} {tag : Int} {write : Bool} {i : Nat} {held : Item → Bool} (suf : List Item) (hf : findAt l tag write = some i) (hh : ∀ x ∈ useGone l i write, held x = false) :
    ∃ pos, Emb l (useLeft l i write ++ suf) held pos := by
  obtain ⟨x0, hx0, -, -⟩ := findAt_is hf
  have hil : i < l.length := (List.getElem?_eq_some_iff.1 hx0).1
  have hlen : (l.take (i + 1)).length = i + 1 := by rw [List.length_take]; omega
  cases write
  · refine ⟨_, emb_of (M := l.take (i + 1)) (q := fun x => x.p == 1) (suf := suf) hlen (fun k x hk hx => ⟨x, take_same hk hx, .inl rfl⟩) rfl hh⟩
  · have hnone : (l.drop (i + 1)).filter (fun _ => true) = l.drop (i + 1) := List.filter_eq_self.2 (fun _ _ => rfl)
    have hnil : (l.drop (i + 1)).filter (fun x => !((fun _ => true : Item → Bool) x)) = [] := List.filter_eq_nil_iff.2 (by simp)
    have h := emb_of (l := l) (M := actAt (l.take (i + 1)) i) (gone := l.drop (i + 1)) (i := i) (q := fun _ => true) (held := held) (suf := suf) (by rw [actAt_len]; exact hlen) (fun k x hk hx => ?_) hnone.symm hh
    · rw [hnil, List.append_nil] at h
      exact ⟨_, h⟩
    · have hm := take_same hk hx
      by_cases hki : k = i
      · subst hki
        by_cases hp : x.p = 2
        · exact ⟨_, actAt_get_yes hm hp, .inr ⟨hp, rfl⟩⟩
        · exact ⟨_, actAt_get_no hm hp, .inl rfl⟩
      · exact ⟨x, by rw [actAt_get_ne hki]; exact hm, .inl rfl⟩

theorem holds_law {l T : List Item} {k tag : Int} {run : List Int} (h : doR l k tag run = (T, 0, 0)) : ∃ pos, Emb l T (heldBy run) pos := by
  rw [doR_base] at h
  cases hr : okR run
  · rw [hr] at h
    simp at h
  · rw [hr, if_pos rfl] at h
    obtain ⟨⟨X, G, why, er⟩, hb⟩ : ∃ b, baseR l k tag = b := ⟨_, rfl⟩
    rw [hb] at h
    simp only at h
    have hnh : ¬ (er = 0 ∧ why = 0 ∧ (firstR G run).isSome = true) := by
      intro hy
      rw [toldR'_yes hy] at h
      simp at h
    rw [toldR'_no hnh] at h
    simp only [Prod.mk.injEq] at h
    obtain ⟨rfl, rfl, rfl⟩ := h
    have hG : ∀ x ∈ G, heldBy run x = false := by
      intro x hx
      cases hh : heldBy run x
      · rfl
      · exact absurd ⟨rfl, rfl, by rw [firstR_isSome]; exact List.any_eq_true.2 ⟨x, hx, hh⟩⟩ hnh
    have acc : ∀ write, accL l tag write = X → accG l tag write = G → accW l tag write = 0 → chk l = 0 → ∃ pos, Emb l X (heldBy run) pos := by
      intro write h1 h2 h3 h4
      have hok : okS l = true := by
        cases ho : okS l
        · simp [chk, ho] at h4
        · rfl
      simp only [accL, accG, accW, hok, if_true, usedL, usedG, usedW] at h1 h2 h3
      cases hf : findAt l tag write with
      | none => simp [hf] at h3
      | some i =>
        simp only [hf] at h1 h2
        subst h1 h2
        have := use_emb (held := heldBy run) [] hf hG
        simpa using this
    unfold baseR at hb
    by_cases e0 : k = 0
    · rw [if_pos e0] at hb
      simp only [Prod.mk.injEq] at hb
      exact acc false hb.1 hb.2.1 hb.2.2.1 hb.2.2.2
    · rw [if_neg e0] at hb
      by_cases e5 : k = 5
      · rw [if_pos e5] at hb
        simp only [Prod.mk.injEq] at hb
        exact acc true hb.1 hb.2.1 hb.2.2.1 hb.2.2.2
      · rw [if_neg e5] at hb
        have hok : okS l = true := by
          cases ho : okS l
          · rw [retagR_bad ho] at hb; simp at hb
          · rfl
        obtain ⟨-, -, hw, -, hs⟩ := retag_spec hok hb
        rcases hs with ⟨hs, -⟩ | ⟨-, hX, hG', -⟩
        · cases hs
        · rcases usedW_cases l tag (writesOf k) with ⟨-, hf⟩ | ⟨hf, -⟩
          · obtain ⟨i, hf⟩ := Option.isSome_iff_exists.1 hf
            simp only [usedL, usedG, hf] at hX hG'
            rw [hX]
            exact use_emb _ hf (by rw [← hG']; exact hG)
          · rw [hf] at hw; cases hw

/-- Where it is not possible there is no stack, and a reason or an error. -/
theorem not_law {l T : List Item} {k tag why er : Int} {run : List Int} (h : doR l k tag run = (T, why, er)) (hn : ¬ (er = 0 ∧ why = 0)) : T = [] ∧ (er ≠ 0 ∨ (er = 0 ∧ (why = 1 ∨ why = 2))) := by
  rw [doR_base] at h
  cases hr : okR run
  · rw [hr] at h
    simp at h
    exact ⟨h.1, .inl (by rw [← h.2.2]; decide)⟩
  · rw [hr, if_pos rfl] at h
    obtain ⟨⟨X, G, w, e⟩, hb⟩ : ∃ b, baseR l k tag = b := ⟨_, rfl⟩
    rw [hb] at h
    simp only at h
    by_cases hy : e = 0 ∧ w = 0 ∧ (firstR G run).isSome = true
    · rw [toldR'_yes hy] at h
      simp only [Prod.mk.injEq] at h
      exact ⟨h.1.symm, .inr ⟨h.2.2.symm, .inr h.2.1.symm⟩⟩
    · rw [toldR'_no hy] at h
      simp only [Prod.mk.injEq] at h
      obtain ⟨rfl, rfl, rfl⟩ := h
      have acc : ∀ write, accL l tag write = X → accW l tag write = w → chk l = e → X = [] ∧ (e ≠ 0 ∨ (e = 0 ∧ (w = 1 ∨ w = 2))) := by
        rintro write rfl rfl rfl
        refine ⟨acc_empty hn, ?_⟩
        by_cases hc : chk l = 0
        · refine .inr ⟨hc, .inl ?_⟩
          have : accW l tag write ≠ 0 := fun h0 => hn ⟨hc, h0⟩
          unfold accW at this ⊢
          cases ho : okS l
          · simp [ho] at this
          · simp only [ho, if_true] at this ⊢
            rcases usedW_cases l tag write with ⟨h1, -⟩ | ⟨h1, -⟩
            · exact absurd h1 this
            · exact h1
        · exact .inl hc
      unfold baseR at hb
      by_cases e0 : k = 0
      · rw [if_pos e0] at hb
        simp only [Prod.mk.injEq] at hb
        exact acc false hb.1 hb.2.2.1 hb.2.2.2
      · rw [if_neg e0] at hb
        by_cases e5 : k = 5
        · rw [if_pos e5] at hb
          simp only [Prod.mk.injEq] at hb
          exact acc true hb.1 hb.2.2.1 hb.2.2.2
        · rw [if_neg e5] at hb
          have hE := retagR_empty (l := l) (k := k) (old := tag) (x := ⟨0, 9, 0⟩) (by rw [hb]; exact hn)
          rw [hb] at hE
          refine ⟨hE, ?_⟩
          by_cases he : e = 0
          · subst he
            have hok : okS l = true := by
              cases ho : okS l
              · rw [retagR_bad ho] at hb; simp at hb
              · rfl
            obtain ⟨-, -, -, -, hs⟩ := retag_spec hok hb
            rcases hs with ⟨h1, -⟩ | ⟨h1, -⟩
            · exact .inr ⟨rfl, .inl h1⟩
            · exact absurd ⟨rfl, h1⟩ hn
          · exact .inl he

end Go.Proofs.YtjfkfibhgilolaaDoor
