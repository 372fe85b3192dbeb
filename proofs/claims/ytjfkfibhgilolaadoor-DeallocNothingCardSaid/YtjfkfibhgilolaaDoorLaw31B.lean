/- Plain laws of layer 31: fewer calls, none; what is held stays. No program in sight. -/
import Derived.Test.YtjfkfibhgilolaaDoorLaw31A
namespace Go.Proofs.YtjfkfibhgilolaaDoor
set_option maxRecDepth 100000
open Go.RowKit

/-- What the unguarded access gives: the stack, what goes, why not, the error. -/
def baseR (l : List Item) (k tag : Int) : List Item × List Item × Int × Int :=
  if k = 0 then (accL l tag false, accG l tag false, accW l tag false, chk l) else if k = 5 then (accL l tag true, accG l tag true, accW l tag true, chk l) else retagR l k tag ⟨0, 9, 0⟩
theorem doR_base (l : List Item) (k tag : Int) (run : List Int) : doR l k tag run = if okR run then toldR' (baseR l k tag).1 (baseR l k tag).2.1 (baseR l k tag).2.2.1 (baseR l k tag).2.2.2 run else ([], 0, 8) := by
  unfold doR baseR useR tagR
  by_cases h0 : k = 0
  · rw [if_pos h0, if_pos h0]
  · rw [if_neg h0, if_neg h0]
    by_cases h5 : k = 5
    · rw [if_pos h5, if_pos h5]
    · rw [if_neg h5, if_neg h5]

theorem firstR_isSome (G : List Item) (run : List Int) : (firstR G run).isSome = G.any (heldBy run) := by
  unfold firstR
  induction G with
  | nil => rfl
  | cons x G ih =>
    rw [List.findIdx?_cons, List.any_cons]
    cases heldBy run x
    · simp only [Bool.false_or]
      rw [← ih]
      simp
    · simp

theorem okFrom_weak {a b : Int} {l : List Int} (h : okFrom b l = true) (hab : a ≤ b) : okFrom a l = true := by
  cases l with
  | nil => rfl
  | cons x l =>
    simp only [okFrom, Bool.and_eq_true, decide_eq_true_eq] at h ⊢
    exact ⟨⟨by omega, h.1.2⟩, h.2⟩
theorem okFrom_erase {last : Int} {l : List Int} (h : okFrom last l = true) (i : Nat) : okFrom last (l.take i ++ l.drop (i + 1)) = true := by
  induction l generalizing last i with
  | nil => simp [okFrom]
  | cons x l ih =>
    have h' := h
    simp only [okFrom, Bool.and_eq_true, decide_eq_true_eq] at h'
    cases i with
    | zero => simpa using okFrom_weak h'.2 (by omega)
    | succ i =>
      rw [List.take_succ_cons, List.drop_succ_cons, List.cons_append]
      simp only [okFrom, Bool.and_eq_true, decide_eq_true_eq]
      exact ⟨h'.1, ih h'.2 i⟩
theorem okR_erase {run : List Int} (h : okR run = true) {i : Nat} (hi : i < run.length) : okR (run.take i ++ run.drop (i + 1)) = true := by
  have h1 := okR_len h
  have h2 := okFrom_erase (okR_from h) i
  unfold okR
  rw [h2, Bool.and_true, decide_eq_true_eq, List.length_append, List.length_take, List.length_drop]
  omega
theorem held_fewer {run : List Int} {i : Nat} {G : List Item} (h : (firstR G (run.take i ++ run.drop (i + 1))).isSome = true) : (firstR G run).isSome = true := by
  rw [firstR_isSome] at h ⊢
  obtain ⟨x, hx, hh⟩ := List.any_eq_true.1 h
  refine List.any_eq_true.2 ⟨x, hx, ?_⟩
  unfold heldBy hasR at hh ⊢
  rw [List.contains_iff_mem] at hh ⊢
  rcases List.mem_append.1 hh with hh | hh
  · exact List.mem_of_mem_take hh
  · exact List.mem_of_mem_drop hh

theorem fewer_law {l : List Item} {k tag : Int} {run : List Int} (h : okR run = true) {i : Nat} (hi : i < run.length) {A B : List Item} {v e w f : Int} (hA : doR l k tag run = (A, v, e)) (hB : doR l k tag (run.take i ++ run.drop (i + 1)) = (B, w, f)) :
    f = e ∧ ((v = 2 ∧ e = 0) ∨ (B = A ∧ w = v)) := by
  rw [doR_base, if_pos h] at hA
  rw [doR_base, if_pos (okR_erase h hi)] at hB
  generalize baseR l k tag = b at hA hB
  obtain ⟨X, G, why, er⟩ := b
  simp only at hA hB
  by_cases hr : er = 0 ∧ why = 0 ∧ (firstR G run).isSome = true
  · rw [toldR'_yes hr] at hA
    simp only [Prod.mk.injEq] at hA
    obtain ⟨rfl, rfl, rfl⟩ := hA
    by_cases hr' : er = 0 ∧ why = 0 ∧ (firstR G (run.take i ++ run.drop (i + 1))).isSome = true
    · rw [toldR'_yes hr'] at hB
      simp only [Prod.mk.injEq] at hB
      exact ⟨hB.2.2.symm, .inl ⟨rfl, rfl⟩⟩
    · rw [toldR'_no hr'] at hB
      simp only [Prod.mk.injEq] at hB
      exact ⟨by rw [← hB.2.2, hr.1], .inl ⟨rfl, rfl⟩⟩
  · have hr' : ¬ (er = 0 ∧ why = 0 ∧ (firstR G (run.take i ++ run.drop (i + 1))).isSome = true) := fun h' => hr ⟨h'.1, h'.2.1, held_fewer h'.2.2⟩
    rw [toldR'_no hr] at hA
    rw [toldR'_no hr', hA] at hB
    simp only [Prod.mk.injEq] at hB
    exact ⟨hB.2.2.symm, .inr ⟨hB.1.symm, hB.2.1.symm⟩⟩

theorem none_law {l : List Item} {k tag : Int} : doR l k tag [] = ((baseR l k tag).1, (baseR l k tag).2.2.1, (baseR l k tag).2.2.2) := by
  rw [doR_base, if_pos (by decide), toldR'_no]
  rw [firstR_isSome]
  rintro ⟨-, -, h⟩
  obtain ⟨x, -, hh⟩ := List.any_eq_true.1 h
  simp [heldBy, hasR] at hh

theorem slice_from_Ints (a : Option Addr) (l : List Int) (cap : Nat) (x : Int) (k : Nat) (hx : x = k) (hk : k ≤ l.length) :
    ∃ b c, (∀ w, (Instr.slice 37 (.slice a l.length cap) (some (.int .i64 x)) none none).run Tryd.prog w = .ok (.slice b (l.length - k) c) w) ∧ ∀ w, Nts w (.slice a l.length cap) l → Nts w (.slice b (l.length - k) c) (l.drop k) := by
  obtain ⟨i, z, hi, hz, hi3, hz3, hby⟩ := Int.infoE
  refine ⟨_, _, fun w => run_slice_from Tryd.underlying37 hi a l.length cap x k hx hk w, fun w h => ?_⟩
  rw [hi3]
  have := Sl.drop h k hk
  rw [rows_drop irow irow_len] at this
  unfold Nts
  rw [List.length_drop]
  exact this

end Go.Proofs.YtjfkfibhgilolaaDoor
