/- A slice of numbers made in a call; what the calls of PhasesNames give. (printed by gen/names32.py) -/
import Derived.Test.YtkbocenpkdaogaaDoorPhsB
import Derived.Test.YtkbocenpkdaogaaDoorNamK
import Derived.Laws.MakeOwn
namespace Go.Proofs.YtkbocenpkdaogaaDoor
set_option maxRecDepth 100000
open Go.RowKit

def zints (n : Nat) : Array Value := ((List.replicate n (0 : Int)).flatMap irow).toArray
theorem zints_made (n : Nat) : madeCells #[.int .i64 0] n = zints n := by
  apply Array.toList_inj.1
  apply List.ext_getElem?
  intro j
  have hlen : ((List.replicate n (0 : Int)).flatMap irow).length = n * 1 := by rw [rows_len (k := 1) irow irow_len, List.length_replicate]
  by_cases hj : j < n
  · have h1 := rows_get irow irow_len (List.replicate n (0 : Int)) j 0 (0 : Int) (by rw [List.getElem?_replicate, if_pos hj]) (by omega)
    rw [Nat.mul_one, Nat.add_zero] at h1
    show _ = ((List.replicate n (0 : Int)).flatMap irow)[j]?
    rw [h1]
    simp [madeCells, hj, irow, Nat.mod_one]
  · rw [List.getElem?_eq_none (by rw [Array.length_toList, size_madeCells]; omega), List.getElem?_eq_none (by show _ ≤ _; rw [show (zints n).toList = (List.replicate n (0 : Int)).flatMap irow from rfl, hlen]; omega)]
theorem make_Ints (n : Nat) (hn : n ≤ 1000000) (W : World) : (Instr.makeSlice 37 (.int .i64 (n : Int)) (.int .i64 (n : Int))).run Tryd.prog W = .ok (.slice (some ⟨W.heap.size, 0, none⟩) n n) (W.alloc (.cells (zints n) 3)) := by
  have h : (Tryd.prog.info? 3).map (fun i => (i.zero.map (fun z => z.cells), i.size, i.bytes)) = some (some #[.int .i64 0], 1, 8) := by kernel_rfl
  cases hi : Tryd.prog.info? 3 with
  | none => rw [hi] at h; simp at h
  | some i =>
    rw [hi] at h
    simp only [Option.map_some, Option.some.injEq, Prod.mk.injEq] at h
    obtain ⟨h1, h2, h3⟩ := h
    cases hz : i.zero with
    | none => rw [hz] at h1; simp at h1
    | some z =>
      rw [hz] at h1
      have hz' : z.cells = #[.int .i64 0] := by simpa using h1
      have := run_make W 37 3 i z Tryd.underlying37 hi hz .i64 .i64 n n (by omega) (Int.le_refl _) (by rw [h3]; omega) (by omega)
      rw [this, hz', h2, Int.toNat_natCast, Nat.mul_one, zints_made]
theorem zints_own (n : Nat) (hn : n ≤ 1000000) (W : World) {B : Nat} (hB : B ≤ W.heap.size) : Own (W.alloc (.cells (zints n) 3)) B 3 1 (.slice (some ⟨W.heap.size, 0, none⟩) n n) n ((List.replicate n (0 : Int)).flatMap irow) :=
  Own.lit (B := B) (e := 3) (k := 1) W (zints n) n hB (by simp [maxLen]; omega) (by simp [zints, rows_len (k := 1) irow irow_len])
theorem nts_own {w : World} {B n : Nat} {v : Value} {l : List Int} (h : Own w B 3 1 v n (l.flatMap irow)) (hl : l.length = n) : Nts w v l := by
  have := h.sl
  unfold Nts
  rw [hl]
  exact this
theorem zints_nts (n b : Nat) (hn : n ≤ 1000000) (W : World) (hb : W.heap.size = b) (l : List Int) (hl : List.replicate n (0 : Int) = l) : Nts (W.alloc (.cells (zints n) 3)) (.slice (some ⟨b, 0, none⟩) n n) l := by
  subst hb hl
  exact nts_own (zints_own n hn W (B := 0) (Nat.zero_le _)) (List.length_replicate ..)
theorem irow_set : ∀ (l : List Int) (k : Nat) (x : Int), k < l.length → (l.flatMap irow).set k (.int .i64 x) = (l.set k x).flatMap irow
  | [], k, x, h => by simp at h
  | v :: l, 0, x, _ => rfl
  | v :: l, k + 1, x, h => by
    have ih := irow_set l k x (by simpa using h)
    have e1 : (v :: l).flatMap irow = Value.int .i64 v :: l.flatMap irow := rfl
    have e2 : ((v :: l).set (k + 1) x).flatMap irow = Value.int .i64 v :: (l.set k x).flatMap irow := rfl
    rw [e1, e2, ← ih]
    rfl
def fl32 (n k : Nat) : List Int := List.replicate k 1 ++ List.replicate (n - k) 0
theorem fl32_len {n k : Nat} (h : k ≤ n) : (fl32 n k).length = n := by simp [fl32]; omega
theorem fl32_set {n k : Nat} (h : k < n) : (fl32 n k).set k 1 = fl32 n (k + 1) := by
  unfold fl32
  obtain ⟨m, hm⟩ : ∃ m, n - k = m + 1 := ⟨n - k - 1, by omega⟩
  have e2 : n - (k + 1) = m := by omega
  rw [List.set_append_right _ _ (by simp), hm, e2, List.length_replicate, Nat.sub_self, List.replicate_succ, List.set_cons_zero, List.replicate_succ', List.append_assoc]
  rfl
theorem fl32_end (n : Nat) : fl32 n n = List.replicate n 1 := by simp [fl32]
def held32 : List Item := [⟨1, 1, 0⟩, ⟨1, 2, 4⟩]
theorem pn_a : tagR [⟨0, 0, 0⟩] 3 1 ⟨0, -1, 0⟩ [] = ([], 0, 8) := by decide +kernel
theorem pn_b : tagR base32 3 1 ⟨0, -1, 0⟩ [] = ([], 0, 2) := by decide +kernel
theorem pn_c : tagR [⟨0, 0, 0⟩] 3 1 ⟨0, 2, 0⟩ [0] = ([], 0, 8) := by decide +kernel
theorem pn_d : useR [⟨0, 0, 0⟩] 1 true [] = ([], 0, 8) := by decide +kernel
theorem pn_e : phaseR [⟨0, 0, 0⟩] 1 = (0, 8) := by decide +kernel
theorem pn_g : manyR [⟨0, 0, 0⟩] [] [2, 1] = ([], 0, 0, 8) := by decide +kernel
theorem pn_i : manyR base32 [] [] = (base32, 0, 0, 0) := by decide +kernel
theorem pn_j : manyR base32 [1, 1, 7, 1] [] = ([], 2, 1, 0) := by decide +kernel
theorem pn_l : tagR base32 3 2 ⟨0, 3, 0⟩ [] = ([], 1, 0) := by decide +kernel
theorem pn_m : tagR held32 3 1 ⟨0, 3, 0⟩ [4] = ([], 2, 0) := by decide +kernel
theorem pn_1 : ((phaseR [⟨3, 5, 0⟩] 5).2 == 0 && (phaseR [⟨3, 5, 0⟩] 5).1 == 2) = true := by decide +kernel
theorem pn_2 : ((phaseR [⟨4, 5, 0⟩] 5).2 == 0 && (phaseR [⟨4, 5, 0⟩] 5).1 == 0) = true := by decide +kernel
theorem pn_3 : ((phaseR [⟨2, 5, 0⟩, ⟨4, 5, 0⟩] 5).2 == 0 && (phaseR [⟨2, 5, 0⟩, ⟨4, 5, 0⟩] 5).1 == 1) = true := by decide +kernel
theorem pn_4 : ((phaseR [] 0).2 == 0 && (phaseR [] 0).1 == 0) = true := by decide +kernel
theorem pn_5 : ((phaseR [] (-1)).2 == 0 && (phaseR [] (-1)).1 == 0) = true := by decide +kernel
theorem data32 : ∃ Z M : List Int, List.replicate 601 (0 : Int) = Z ∧ List.replicate 600 (1 : Int) = M ∧ manyR [⟨0, 0, 0⟩] Z [] = ([], 0, 0, 8) ∧ manyR base32 Z [] = ([], 0, 0, 4) ∧ manyR base32 M [] = (base32, 600, 0, 0) ∧ M.length = 600 :=
  ⟨_, _, rfl, rfl, by decide +kernel, by decide +kernel, by decide +kernel, by decide +kernel⟩

end Go.Proofs.YtkbocenpkdaogaaDoor
