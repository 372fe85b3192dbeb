/- An access of a range is those of its cells; no program in sight. (printed by gen/cells33b.py) -/
import Derived.Test.YtjfkfibhgilolaaDoorStkM
namespace Go.Proofs.YtjfkfibhgilolaaDoor
set_option maxRecDepth 100000
open Go.RowKit

theorem useA_zero {x : Stk} {what a n tag : Int} {run : List Int} (h : (useA x what a n tag run).2.2 ≠ 0) : (useA x what a n tag run).1 = Stk.zero ∧ (useA x what a n tag run).2.1 = 0 := by
  have key : ∀ (f : List Item → List Item × Int × Int) (num : Int) (cells : List (List Item)) (m j : Nat) (out : List (List Item)) (why : Int), (eachGo f num cells m j out why).2.2 ≠ 0 → (eachGo f num cells m j out why).1 = Stk.zero ∧ (eachGo f num cells m j out why).2.1 = 0 := by
    intro f num cells m
    induction m with
    | zero =>
      intro j out why h
      exfalso
      unfold eachGo at h
      split at h <;> exact h rfl
    | succ m ih =>
      intro j out why h
      unfold eachGo at h ⊢
      split
      · rename_i h1
        rw [if_pos h1] at h
        exact ih _ _ _ h
      · exact ⟨rfl, rfl⟩
  have hu : ∀ b, (use33 x a n tag b run).2.2 ≠ 0 → (use33 x a n tag b run).1 = Stk.zero ∧ (use33 x a n tag b run).2.1 = 0 := by
    intro b h
    unfold use33 at h ⊢
    split
    · rename_i h1
      rw [if_pos h1] at h
      exact key _ _ _ _ _ _ _ h
    · exact ⟨rfl, rfl⟩
  unfold useA at h ⊢
  split
  · rename_i h1
    rw [if_pos h1] at h
    exact hu _ h
  · rename_i h1
    rw [if_neg h1] at h
    split
    · rename_i h2
      rw [if_pos h2] at h
      exact hu _ h
    · rename_i h2
      rw [if_neg h2] at h
      unfold tag33 at h ⊢
      split
      · rename_i h3
        rw [if_pos h3] at h
        split
        · rename_i h4
          rw [if_pos h4] at h
          exact key _ _ _ _ _ _ _ h
        · exact ⟨rfl, rfl⟩
      · exact ⟨rfl, rfl⟩

/-- What a round of the statement's loop may take for granted. -/
def CellsR (f : List Item → List Item × Int × Int) (l yl : List (List Item)) (why : Int) (A N : Nat) (F : Nat → Int) : Prop :=
  ∀ (i : Nat) (p : List Item), l[i]? = some p → (¬ (A ≤ i ∧ i < A + N) → F (i + 1) = F i ∧ (why = 0 → F i = 0 ∧ yl[i]? = some p)) ∧ (A ≤ i ∧ i < A + N → (f p).2.2 = 0 ∧ F (i + 1) = (if F i = 0 then (f p).2.1 else F i) ∧ (why = 0 → F i = 0 ∧ yl[i]? = some (f p).1))

def fstW (f : List Item → List Item × Int × Int) (l : List (List Item)) (A N : Nat) : Nat → Int
  | 0 => 0
  | i + 1 => if A ≤ i ∧ i < A + N then (if fstW f l A N i = 0 then (f (l.getD i [])).2.1 else fstW f l A N i) else fstW f l A N i
theorem getD_of {l : List (List Item)} {i : Nat} {p : List Item} (h : l[i]? = some p) : l.getD i [] = p := by rw [List.getD_eq_getElem?_getD, h]; rfl
theorem fstW_out {f : List Item → List Item × Int × Int} {l : List (List Item)} {A N i : Nat} (h : ¬ (A ≤ i ∧ i < A + N)) : fstW f l A N (i + 1) = fstW f l A N i := by rw [fstW, if_neg h]
theorem fstW_in {f : List Item → List Item × Int × Int} {l : List (List Item)} {A N i : Nat} {p : List Item} (h : A ≤ i ∧ i < A + N) (hp : l[i]? = some p) : fstW f l A N (i + 1) = if fstW f l A N i = 0 then (f p).2.1 else fstW f l A N i := by rw [fstW, if_pos h, getD_of hp]
theorem fstW_low {f : List Item → List Item × Int × Int} {l : List (List Item)} {A N : Nat} : ∀ {i : Nat}, i ≤ A → fstW f l A N i = 0
  | 0, _ => rfl
  | i + 1, h => by rw [fstW_out (by omega), fstW_low (by omega)]
theorem fstW_high {f : List Item → List Item × Int × Int} {l : List (List Item)} {A N : Nat} : ∀ (d : Nat), fstW f l A N (A + N + d) = fstW f l A N (A + N)
  | 0 => rfl
  | d + 1 => by rw [← Nat.add_assoc, fstW_out (by omega), fstW_high d]
theorem fstW_keep {f : List Item → List Item × Int × Int} {l : List (List Item)} {A N i : Nat} (h : fstW f l A N i ≠ 0) : ∀ d, fstW f l A N (i + d) ≠ 0
  | 0 => h
  | d + 1 => by
    have ih := fstW_keep h d
    rw [← Nat.add_assoc, fstW, if_neg ih]
    split <;> exact ih

theorem eachGo_cells {f : List Item → List Item × Int × Int} {num yn w : Int} {l yl : List (List Item)} {A N : Nat} (hT : A + N ≤ l.length) : ∀ (m j : Nat) (out : List (List Item)) (why : Int), j + m = A + N → A ≤ j → out.length = l.length → why = fstW f l A N j →
    (∀ i, j ≤ i → out[i]? = l[i]?) → (∀ i, i < A → out[i]? = l[i]?) → (∀ i p, l[i]? = some p → A ≤ i → i < j → (f p).2.2 = 0 ∧ out[i]? = some (f p).1) → eachGo f num l m j out why = (⟨yn, yl⟩, w, 0) →
    fstW f l A N (A + N) = w ∧ (∀ i p, l[i]? = some p → A ≤ i → i < A + N → (f p).2.2 = 0 ∧ (w = 0 → yl[i]? = some (f p).1)) ∧ (w = 0 → yn = num ∧ yl.length = l.length ∧ ∀ i, ¬ (A ≤ i ∧ i < A + N) → yl[i]? = l[i]?) ∧ (w ≠ 0 → yn = 0 ∧ yl = []) := by
  intro m
  induction m with
  | zero =>
    intro j out why hj hA ho hw h1 h2 h3 h
    obtain rfl : j = A + N := by omega
    unfold eachGo at h
    by_cases h0 : why = 0
    · rw [if_pos h0] at h
      simp only [Prod.mk.injEq, Stk.mk.injEq, and_true] at h
      obtain ⟨⟨rfl, rfl⟩, rfl⟩ := h
      refine ⟨hw.symm.trans h0, fun i p hp ha hi => ⟨(h3 i p hp ha hi).1, fun _ => (h3 i p hp ha hi).2⟩, fun _ => ⟨rfl, ho, fun i hn => ?_⟩, fun hn => absurd rfl hn⟩
      by_cases hi : i < A
      · exact h2 i hi
      · exact h1 i (by omega)
    · rw [if_neg h0] at h
      simp only [Prod.mk.injEq, Stk.mk.injEq, Stk.zero, and_true] at h
      obtain ⟨⟨rfl, rfl⟩, rfl⟩ := h
      exact ⟨hw.symm, fun i p hp ha hi => ⟨(h3 i p hp ha hi).1, fun e => absurd e h0⟩, fun e => absurd e h0, fun _ => ⟨rfl, rfl⟩⟩
  | succ m ih =>
    intro j out why hj hA ho hw h1 h2 h3 h
    have hlt : j < l.length := by omega
    have hp : l[j]? = some l[j] := List.getElem?_eq_getElem hlt
    unfold eachGo at h
    rw [getD_of hp] at h
    by_cases h0 : (f l[j]).2.2 = 0
    · rw [if_pos h0] at h
      refine ih (j + 1) _ _ (by omega) (by omega) (by simpa using ho) ?_ (fun i hi => ?_) (fun i hi => ?_) (fun i p hip ha hi => ?_) h
      · rw [fstW_in ⟨hA, by omega⟩ hp, ← hw]
      · rw [List.getElem?_set_ne (by omega)]; exact h1 i (by omega)
      · rw [List.getElem?_set_ne (by omega)]; exact h2 i hi
      · by_cases e : i = j
        · subst e
          rw [hp] at hip
          cases hip
          exact ⟨h0, List.getElem?_set_self (by omega)⟩
        · obtain ⟨k1, k2⟩ := h3 i p hip ha (by omega)
          exact ⟨k1, by rw [List.getElem?_set_ne (fun e' => e e'.symm)]; exact k2⟩
    · rw [if_neg h0] at h
      simp only [Prod.mk.injEq] at h
      exact absurd h.2.2 h0

theorem each_cells {f : List Item → List Item × Int × Int} {num yn why : Int} {l yl : List (List Item)} {A N : Nat} (hA : A + N ≤ l.length) (h : eachR f ⟨num, l⟩ A N = (⟨yn, yl⟩, why, 0)) :
    fstW f l A N l.length = why ∧ CellsR f l yl why A N (fstW f l A N) ∧ (why = 0 → yn = num ∧ yl.length = l.length) ∧ (why ≠ 0 → yn = 0 ∧ yl = []) := by
  unfold eachR at h
  have hj : A + N = A + N := rfl
  obtain ⟨k1, k2, k3, k4⟩ := eachGo_cells hA N A l 0 hj (Nat.le_refl _) rfl (fstW_low (Nat.le_refl _)).symm (fun _ _ => rfl) (fun _ _ => rfl) (fun i p _ h1 h2 => by omega) h
  have hF : fstW f l A N l.length = why := by
    have := fstW_high (f := f) (l := l) (A := A) (N := N) (l.length - (A + N))
    rw [show A + N + (l.length - (A + N)) = l.length by omega] at this
    rw [this, k1]
  have hz : why = 0 → ∀ i, i < l.length → fstW f l A N i = 0 := by
    intro hw i hi
    apply Decidable.byContradiction
    intro hn
    have := fstW_keep hn (l.length - i)
    rw [show i + (l.length - i) = l.length by omega] at this
    exact this (hF.trans hw)
  refine ⟨hF, fun i p hp => ?_, fun hw => ⟨(k3 hw).1, (k3 hw).2.1⟩, k4⟩
  have hi : i < l.length := (List.getElem?_eq_some_iff.1 hp).1
  refine ⟨fun hn => ⟨fstW_out hn, fun hw => ⟨hz hw i hi, ((k3 hw).2.2 i hn).trans hp⟩⟩, fun hin => ?_⟩
  obtain ⟨e1, e2⟩ := k2 i p hp hin.1 hin.2
  exact ⟨e1, fstW_in hin hp, fun hw => ⟨hz hw i hi, e2 hw⟩⟩

theorem useA_errI {x : Stk} {what tag a n : Int} {run : List Int} (h : (useA x what a n tag run).2.2 = 0) : ask33 x a n run = 0 ∧ kindA what = true := by
  by_cases ha : ask33 x a n run = 0
  · refine ⟨ha, ?_⟩
    by_cases h0 : what = 0
    · simp [kindA, h0]
    by_cases h5 : what = 5
    · simp [kindA, h5]
    · cases hko : kindOk what
      · rw [useA_tag h0 h5, tag33_arg ha hko] at h
        cases h
      · simp [kindA, hko]
  · exfalso
    unfold useA at h
    split at h
    · rw [use33_bad rfl ha] at h
      exact ha h
    · split at h
      · rw [use33_bad rfl ha] at h
        exact ha h
      · rw [tag33_bad rfl ha] at h
        exact ha h

theorem cells_law {num what a n tag yn why : Int} {l yl : List (List Item)} {run : List Int} (h : useA ⟨num, l⟩ what a n tag run = (⟨yn, yl⟩, why, 0)) :
    ∃ (A N : Nat) (F : Nat → Int), a = A ∧ n = N ∧ 1 ≤ N ∧ A + N ≤ l.length ∧ l.length ≤ 2 ∧ F 0 = 0 ∧ F l.length = why ∧ CellsR (oneA what tag run) l yl why A N F ∧ (why = 0 → yn = num ∧ yl.length = l.length) ∧ (why ≠ 0 → yn = 0 ∧ yl = []) := by
  have hk : ask33 ⟨num, l⟩ a n run = 0 ∧ kindA what = true := useA_errI (tag := tag) (by rw [h])
  obtain ⟨hask, hkk⟩ := hk
  rcases ask33_cases ⟨num, l⟩ a n run with h1 | h1 | ⟨-, hrok, hok, hin⟩
  · rw [hask] at h1; cases h1
  · rw [hask] at h1; cases h1
  · obtain ⟨i1, i2, i3, i4⟩ := hin
    dsimp only at i2 i4
    obtain ⟨A, rfl⟩ : ∃ m : Nat, a = m := ⟨a.toNat, by omega⟩
    obtain ⟨N, rfl⟩ : ∃ m : Nat, n = m := ⟨n.toNat, by omega⟩
    have hT : A + N ≤ l.length := by omega
    have hE : eachR (oneA what tag run) ⟨num, l⟩ A N = (⟨yn, yl⟩, why, 0) := (useA_ok hkk hask).symm.trans h
    obtain ⟨k1, k2, k3, k4⟩ := each_cells hT hE
    exact ⟨A, N, fstW (oneA what tag run) l A N, rfl, rfl, by omega, hT, (okK_small33 hok).1, rfl, k1, k2, k3, k4⟩

end Go.Proofs.YtjfkfibhgilolaaDoor
