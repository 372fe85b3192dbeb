/- Plain law of layer 31: what is held stays, in order. No program in sight. -/
import Derived.Test.YtfhbgjbbahienaaDoorLaw31B
import Derived.Test.YtfhbgjbbahienaaDoorLaw30A
import Derived.Test.YtfhbgjbbahienaaDoorAccF
namespace Go.Proofs.YtfhbgjbbahienaaDoor
set_option maxRecDepth 100000
open Go.RowKit

/-- y is x, or what a reserved x becomes. -/
def Same1 (x y : Item) : Prop := y = x ∨ (x.p = 2 ∧ y = ⟨1, x.t, x.c⟩)
/-- The held items of l stand in T, in order: that at k stands at pos k. -/
structure Emb (l T : List Item) (held : Item → Bool) (pos : Nat → Nat) : Prop where
  zero : pos 0 = 0
  up : ∀ (k : Nat) (x : Item), l[k]? = some x → pos k ≤ pos (k + 1)
  at_ : ∀ (k : Nat) (x : Item), l[k]? = some x → held x = true → pos (k + 1) = pos k + 1 ∧ ∃ y, T[pos k]? = some y ∧ Same1 x y

theorem emb_of {l M gone suf : List Item} {i : Nat} {q held : Item → Bool} (hM : M.length = i + 1) (hMk : ∀ (k : Nat) (x : Item), k ≤ i → l[k]? = some x → ∃ y, M[k]? = some y ∧ Same1 x y)
    (hg : gone = (l.drop (i + 1)).filter q) (hh : ∀ x ∈ gone, held x = false) : Emb l (M ++ (l.drop (i + 1)).filter (fun x => !q x) ++ suf) held (cN l i q) := by
  obtain ⟨left, hl⟩ : ∃ left, left = M ++ (l.drop (i + 1)).filter (fun x => !q x) := ⟨_, rfl⟩
  rw [← hl]
  have app : ∀ {j : Nat} {y : Item}, left[j]? = some y → (left ++ suf)[j]? = some y := fun {j y} h => by
    rw [List.getElem?_append_left (List.getElem?_eq_some_iff.1 h).1]; exact h
  have step : ∀ (k : Nat) (x : Item), l[k]? = some x → (k ≤ i ∧ cN l i q (k + 1) = cN l i q k + 1 ∧ left[cN l i q k]? = M[k]?) ∨ (i < k ∧ q x = false ∧ cN l i q (k + 1) = cN l i q k + 1 ∧ left[cN l i q k]? = some x) ∨ (held x = false ∧ cN l i q (k + 1) = cN l i q k) := by
    intro k x hx
    by_cases hk : k ≤ i
    · obtain ⟨h1, h2, -⟩ := parts_low hM hl hk
      exact .inl ⟨hk, h2, h1⟩
    · cases hq : q x
      · obtain ⟨h1, h2, -⟩ := parts_stay hM hl hx (by omega) hq
        exact .inr (.inl ⟨by omega, rfl, h2, h1⟩)
      · obtain ⟨h1, h2, -⟩ := parts_go hg hx (by omega) hq
        exact .inr (.inr ⟨hh x (List.mem_of_getElem? h1), h2⟩)
  refine ⟨(parts_zero l i q).1, fun k x hx => ?_, fun k x hx hheld => ?_⟩
  · rcases step k x hx with ⟨-, h, -⟩ | ⟨-, -, h, -⟩ | ⟨-, h⟩ <;> omega
  · rcases step k x hx with ⟨hk, h, h2⟩ | ⟨-, -, h, h2⟩ | ⟨h, -⟩
    · obtain ⟨y, hy, hs⟩ := hMk k x hk hx
      exact ⟨h, y, app (h2.trans hy), hs⟩
    · exact ⟨h, x, app h2, .inl rfl⟩
    · rw [hheld] at h; cases h

theorem take_same {l : List Item} {i k : Nat} {x : Item} (hk : k ≤ i) (hx : l[k]? = some x) : (l.take (i + 1))[k]? = some x := by rw [List.getElem?_take, if_pos (by omega)]; exact hx

theorem use_emb {l : List Item} {tag : Int} {write : Bool} {i : Nat} {held : Item → Bool} (suf : List Item) (hf : findAt l tag write = some i) (hh : ∀ x ∈ useGone l i write, held x = false) :
    ∃ pos, Emb l (useLeft l i write ++ suf) held pos := by
  obtain ⟨x0, hx0, -, -⟩ := findAt_is hf
  have hil : i < l.length := (List.getElem?_eq_some_iff.1 hx0).1
  have hlen : (l.take (i + 1)).length = i + 1 := by rw [List.length_take]; omega
  cases write
  · refine ⟨_, emb_of (M := l.take (i + 1)) (q := fun x => x.p == 1) (suf := suf) hlen (fun k x hk hx => ⟨x, take_same hk hx, .inl rfl⟩) rfl hh⟩
  · have hnone : (l.drop (i + 1)).filter (fun _ => true) = l.drop (i + 1) := List.filter_eq_self.2 (fun _ _ => rfl)
    have hnil : (l.drop (i + 1)).filter (fun x => !((fun _ => true : Item → Bool) x)) = [] := List.filter_eq_nil_iff.2 (by simp)
    have h := emb_of (l := l) (M := actAt (l.take (i + 1)) i) (gone := l.drop (i + 1)) (i := i) (q := fun _ => true) (held := held) (suf := suf) (by rw [actAt_len]; exact hlen) (fun k x hk hx => ?_) hnone.symm hh
    · rw [hnil, List.append_nil] at h
      exact ⟨_, h⟩
    · have hm := take_same hk hx
      by_cases hki : k = i
      · subst hki
        by_cases hp : x.p = 2
        · exact ⟨_, actAt_get_yes hm hp, .inr ⟨hp, rfl⟩⟩
        · exact ⟨_, actAt_get_no hm hp, .inl rfl⟩
      · exact ⟨x, by rw [actAt_get_ne hki]; exact hm, .inl rfl⟩

theorem holds_law {l T : List Item} {k tag : Int} {run : List Int} (h : doR l k tag run = (T, 0, 0)) : ∃ pos, Emb l T (heldBy run) pos := by
  rw [doR_base] at h
  cases hr : okR run
  · rw [hr] at h
    simp at h
  · rw [hr, if_pos rfl] at h
    obtain ⟨⟨X, G, why, er⟩, hb⟩ : ∃ b, baseR l k tag = b := ⟨_, rfl⟩
    rw [hb] at h
    simp only at h
    have hnh : ¬ (er = 0 ∧ why = 0 ∧ (firstR G run).isSome = true) := by
      intro hy
      rw [toldR'_yes hy] at h
      simp at h
    rw [toldR'_no hnh] at h
    simp only [Prod.mk.injEq] at h
    obtain ⟨rfl, rfl, rfl⟩ := h
    have hG : ∀ x ∈ G, heldBy run x = false := by
      intro x hx
      cases hh : heldBy run x
      · rfl
      · exact absurd ⟨rfl, rfl, by rw [firstR_isSome]; exact List.any_eq_true.2 ⟨x, hx, hh⟩⟩ hnh
    have acc : ∀ write, accL l tag write = X → accG l tag write = G → accW l tag write = 0 → chk l = 0 → ∃ pos, Emb l X (heldBy run) pos := by
      intro write h1 h2 h3 h4
      have hok : okS l = true := by
        cases ho : okS l
        · simp [chk, ho] at h4
        · rfl
      simp only [accL, accG, accW, hok, if_true, usedL, usedG, usedW] at h1 h2 h3
      cases hf : findAt l tag write with
      | none => simp [hf] at h3
      | some i =>
        simp only [hf] at h1 h2
        subst h1 h2
        have := use_emb (held := heldBy run) [] hf hG
        simpa using this
    unfold baseR at hb
    by_cases e0 : k = 0
    · rw [if_pos e0] at hb
      simp only [Prod.mk.injEq] at hb
      exact acc false hb.1 hb.2.1 hb.2.2.1 hb.2.2.2
    · rw [if_neg e0] at hb
      by_cases e5 : k = 5
      · rw [if_pos e5] at hb
        simp only [Prod.mk.injEq] at hb
        exact acc true hb.1 hb.2.1 hb.2.2.1 hb.2.2.2
      · rw [if_neg e5] at hb
        have hok : okS l = true := by
          cases ho : okS l
          · rw [retagR_bad ho] at hb; simp at hb
          · rfl
        obtain ⟨-, -, hw, -, hs⟩ := retag_spec hok hb
        rcases hs with ⟨hs, -⟩ | ⟨-, hX, hG', -⟩
        · cases hs
        · rcases usedW_cases l tag (writesOf k) with ⟨-, hf⟩ | ⟨hf, -⟩
          · obtain ⟨i, hf⟩ := Option.isSome_iff_exists.1 hf
            simp only [usedL, usedG, hf] at hX hG'
            rw [hX]
            exact use_emb _ hf (by rw [← hG']; exact hG)
          · rw [hf] at hw; cases hw

/-- Where it is not possible there is no stack, and a reason or an error. -/
theorem not_law {l T : List Item} {k tag why er : Int} {run : List Int} (h : doR l k tag run = (T, why, er)) (hn : ¬ (er = 0 ∧ why = 0)) : T = [] ∧ (er ≠ 0 ∨ (er = 0 ∧ (why = 1 ∨ why = 2))) := by
  rw [doR_base] at h
  cases hr : okR run
  · rw [hr] at h
    simp at h
    exact ⟨h.1, .inl (by rw [← h.2.2]; decide)⟩
  · rw [hr, if_pos rfl] at h
    obtain ⟨⟨X, G, w, e⟩, hb⟩ : ∃ b, baseR l k tag = b := ⟨_, rfl⟩
    rw [hb] at h
    simp only at h
    by_cases hy : e = 0 ∧ w = 0 ∧ (firstR G run).isSome = true
    · rw [toldR'_yes hy] at h
      simp only [Prod.mk.injEq] at h
      exact ⟨h.1.symm, .inr ⟨h.2.2.symm, .inr h.2.1.symm⟩⟩
    · rw [toldR'_no hy] at h
      simp only [Prod.mk.injEq] at h
      obtain ⟨rfl, rfl, rfl⟩ := h
      have acc : ∀ write, accL l tag write = X → accW l tag write = w → chk l = e → X = [] ∧ (e ≠ 0 ∨ (e = 0 ∧ (w = 1 ∨ w = 2))) := by
        rintro write rfl rfl rfl
        refine ⟨acc_empty hn, ?_⟩
        by_cases hc : chk l = 0
        · refine .inr ⟨hc, .inl ?_⟩
          have : accW l tag write ≠ 0 := fun h0 => hn ⟨hc, h0⟩
          unfold accW at this ⊢
          cases ho : okS l
          · simp [ho] at this
          · simp only [ho, if_true] at this ⊢
            rcases usedW_cases l tag write with ⟨h1, -⟩ | ⟨h1, -⟩
            · exact absurd h1 this
            · exact h1
        · exact .inl hc
      unfold baseR at hb
      by_cases e0 : k = 0
      · rw [if_pos e0] at hb
        simp only [Prod.mk.injEq] at hb
        exact acc false hb.1 hb.2.2.1 hb.2.2.2
      · rw [if_neg e0] at hb
        by_cases e5 : k = 5
        · rw [if_pos e5] at hb
          simp only [Prod.mk.injEq] at hb
          exact acc true hb.1 hb.2.2.1 hb.2.2.2
        · rw [if_neg e5] at hb
          have hE := retagR_empty (l := l) (k := k) (old := tag) (x := ⟨0, 9, 0⟩) (by rw [hb]; exact hn)
          rw [hb] at hE
          refine ⟨hE, ?_⟩
          by_cases he : e = 0
          · subst he
            have hok : okS l = true := by
              cases ho : okS l
              · rw [retagR_bad ho] at hb; simp at hb
              · rfl
            obtain ⟨-, -, -, -, hs⟩ := retag_spec hok hb
            rcases hs with ⟨h1, -⟩ | ⟨h1, -⟩
            · exact .inr ⟨rfl, .inl h1⟩
            · exact absurd ⟨rfl, h1⟩ hn
          · exact .inl he

end Go.Proofs.YtfhbgjbbahienaaDoor
