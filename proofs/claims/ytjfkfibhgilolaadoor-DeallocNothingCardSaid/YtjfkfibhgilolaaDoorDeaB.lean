/- Contracts: Protects, End, All of layer 34, the program's and the reference's. (printed by gen/dea34.py) -/
import Derived.Test.YtjfkfibhgilolaaDoorDeaA
namespace Go.Proofs.YtjfkfibhgilolaaDoor
set_option maxRecDepth 100000
open Go.RowKit

def askErr (x : Stk) (run : List Int) : Int := if okR run then stkErr x else 8
def protR (x : Stk) (run : List Int) : List Item × Int := if askErr x run = 0 then (keptL x.cells run, 0) else ([], askErr x run)
def endR34 (x : Stk) (run : List Int) : Int × Int := if askErr x run = 0 then (if freeB x.cells run then 0 else 2, 0) else (0, askErr x run)
theorem askErr_cases (x : Stk) (run : List Int) : askErr x run = 8 ∨ (askErr x run = 0 ∧ okR run = true ∧ okK x = true) := by
  unfold askErr
  cases h : okR run
  · exact .inl (by simp)
  · cases hk : okK x
    · exact .inl (by simp [stkErr_bad hk])
    · exact .inr ⟨by simp [stkErr_ok hk], rfl, rfl⟩
theorem okK_small {x : Stk} (h : okK x = true) : x.cells.length ≤ 2 ∧ ∀ s ∈ x.cells, s.length ≤ 600 := by
  unfold okK at h
  simp only [Bool.and_eq_true, decide_eq_true_eq] at h
  refine ⟨h.1.2, fun s hs => ?_⟩
  have := List.all_eq_true.1 h.2 s hs
  unfold okS at this
  simp only [Bool.and_eq_true, decide_eq_true_eq] at this
  exact this.1
theorem kept_succ {l : List (List Item)} {run : List Int} {k : Nat} {x : List Item} (hx : l[k]? = some x) : keptL (l.take (k + 1)) run = keptL (l.take k) run ++ x.filter (heldBy run) := by
  rw [List.take_add_one, hx]
  simp [keptL]
theorem kept_len {l : List (List Item)} {run : List Int} (h : ∀ s ∈ l, s.length ≤ 600) : ∀ k : Nat, (keptL (l.take k) run).length ≤ 600 * k
  | 0 => by simp [keptL]
  | k + 1 => by
    have ih := kept_len (run := run) h k
    cases hx : l[k]? with
    | none =>
      rw [List.take_of_length_le (by have := List.getElem?_eq_none_iff.1 hx; omega), ← List.take_of_length_le (i := k) (List.getElem?_eq_none_iff.1 hx)]
      omega
    | some x =>
      rw [kept_succ hx, List.length_append]
      have h1 := h x (List.mem_of_getElem? hx)
      have h2 := List.length_filter_le (heldBy run) x
      omega
theorem filt_yes {n : List Item} {q : Item → Bool} {j : Nat} {y : Item} (hy : n[j]? = some y) (hq : q y = true) : (n.take (j + 1)).filter q = (n.take j).filter q ++ [y] := by
  rw [List.take_add_one, hy, List.filter_append]; simp [hq]
theorem filt_no {n : List Item} {q : Item → Bool} {j : Nat} {y : Item} (hy : n[j]? = some y) (hq : q y = false) : (n.take (j + 1)).filter q = (n.take j).filter q := by
  rw [List.take_add_one, hy, List.filter_append]; simp [hq]
theorem free_kept (l : List (List Item)) (run : List Int) : freeB l run = ((keptL l run).length == 0) := by
  unfold freeB keptL
  induction l with
  | nil => rfl
  | cons s l ih =>
    rw [List.any_cons, List.flatMap_cons, List.length_append, Bool.not_or, ih]
    have : (!s.any (heldBy run)) = ((s.filter (heldBy run)).length == 0) := by
      cases h : s.any (heldBy run)
      · have : s.filter (heldBy run) = [] := List.filter_eq_nil_iff.2 (fun x hx => by
          have := List.any_eq_false.1 h x hx; simpa using this)
        rw [this]; rfl
      · obtain ⟨x, hx, hh⟩ := List.any_eq_true.1 h
        have hm : x ∈ s.filter (heldBy run) := List.mem_filter.2 ⟨hx, hh⟩
        have : 0 < (s.filter (heldBy run)).length := List.length_pos_of_mem hm
        simp
        exact ⟨x, hx, hh⟩
    rw [this]
    cases h1 : (s.filter (heldBy run)).length == 0 <;> cases h2 : (l.flatMap fun s => s.filter (heldBy run)).length == 0 <;> simp_all

set_option maxHeartbeats 800000 in
theorem dealloc_asked {l : List (List Item)} {num : Int} {run : List Int} {s v : Value} {w : World} (hl : Sts w s l) (hr : Nts w v run) :
    Calls Tryd.prog 74 #[.agg #[.int .i64 num, s], v] w fun e w' => e = .returned (.int .i64 (askErr ⟨num, l⟩ run)) ∧ Ext w w' := by
  have hE0 := (Ext.refl w).alloc (.cells #[.int .i64 num, s] 56)
  have hl0 := hl.ext hE0
  have hr0 := hr.ext hE0
  obtain ⟨a, cp, rfl, -⟩ := hl.form
  obtain ⟨a2, cp2, rfl, -⟩ := hr.form
  have bM := Box.new w 56 #[.int .i64 num, .slice a l.length cp]
  clear hl hr
  cases hok : okR run
  · have h8 := Lib.hid (runErr_bad hok)
    have hres : Hid (askErr ⟨num, l⟩ run = 8) := Hid.mk (by simp [askErr, hok])
    clear hok
    go_enter Tryd.func74, Tryd.ntmps74
    go_wp2_with fail
    refine (guard_Check hr0).mono ?_
    rintro e w1 ⟨rfl, rfl⟩
    rw [h8.out]
    go_wp2
    go_ret
    exact ⟨by rw [hres.out] <;> rfl, hE0⟩
  · have h0 := Lib.hid (runErr_ok hok)
    have hres : Hid (askErr ⟨num, l⟩ run = stkErr ⟨num, l⟩) := Hid.mk (by simp [askErr, hok])
    clear hok
    go_enter Tryd.func74, Tryd.ntmps74
    go_wp2_with fail
    refine (guard_Check hr0).mono ?_
    rintro e w1 ⟨rfl, rfl⟩
    rw [h0.out]
    go_wp2_with fail
    refine (stacks_Check hl0).mono ?_
    rintro e w2 ⟨rfl, hE2⟩
    go_wp2
    go_ret
    exact ⟨by rw [hres.out] <;> rfl, hE0.trans hE2⟩



end Go.Proofs.YtjfkfibhgilolaaDoor
