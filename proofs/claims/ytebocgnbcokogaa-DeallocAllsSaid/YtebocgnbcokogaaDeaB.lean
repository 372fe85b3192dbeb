/- Contracts: Protects, End, All of layer 34, the program's and the reference's. (printed by gen/dea34.py) -/
import Derived.Test.YtebocgnbcokogaaDeaA
namespace Go.Proofs.Ytebocgnbcokogaa
set_option maxRecDepth 100000
open Go.RowKit

def askErr (x : Stk) (run : List Int) : Int := if okR run then stkErr x else 8
def protR (x : Stk) (run : List Int) : List Item × Int := if askErr x run = 0 then (keptL x.cells run, 0) else ([], askErr x run)
def endR34 (x : Stk) (run : List Int) : Int × Int := if askErr x run = 0 then (if freeB x.cells run then 0 else 2, 0) else (0, askErr x run)
theorem askErr_cases (x : Stk) (run : List Int) : askErr x run = 8 ∨ (askErr x run = 0 ∧ okR run = true ∧ okK x = true) := by
  unfold askErr
  cases h : okR run
  · exact .inl (by simp)
  · cases hk : okK x
    · exact .inl (by simp [stkErr_bad hk])
    · exact .inr ⟨by simp [stkErr_ok hk], rfl, rfl⟩
theorem okK_small {x : Stk} (h : okK x = true) : x.cells.length ≤ 2 ∧ ∀ s ∈ x.cells, s.length ≤ 600 := by
  unfold okK at h
  simp only [Bool.and_eq_true, decide_eq_true_eq] at h
  refine ⟨h.1.2, fun s hs => ?_⟩
  have := List.all_eq_true.1 h.2 s hs
  unfold okS at this
  simp only [Bool.and_eq_true, decide_eq_true_eq] at this
  exact this.1
theorem kept_succ {l : List (List Item)} {run : List Int} {k : Nat} {x : List Item} (hx : l[k]? = some x) : keptL (l.take (k + 1)) run = keptL (l.take k) run ++ x.filter (heldBy run) := by
  rw [List.take_add_one, hx]
  simp [keptL]
theorem kept_len {l : List (List Item)} {run : List Int} (h : ∀ s ∈ l, s.length ≤ 600) : ∀ k : Nat, (keptL (l.take k) run).length ≤ 600 * k
  | 0 => by simp [keptL]
  | k + 1 => by
    have ih := kept_len (run := run) h k
    cases hx : l[k]? with
    | none =>
      rw [List.take_of_length_le (by have := List.getElem?_eq_none_iff.1 hx; omega), ← List.take_of_length_le (i := k) (List.getElem?_eq_none_iff.1 hx)]
      omega
    | some x =>
      rw [kept_succ hx, List.length_append]
      have h1 := h x (List.mem_of_getElem? hx)
      have h2 := List.length_filter_le (heldBy run) x
      omega
theorem filt_yes {n : List Item} {q : Item → Bool} {j : Nat} {y : Item} (hy : n[j]? = some y) (hq : q y = true) : (n.take (j + 1)).filter q = (n.take j).filter q ++ [y] := by
  rw [List.take_add_one, hy, List.filter_append]; simp [hq]
theorem filt_no {n : List Item} {q : Item → Bool} {j : Nat} {y : Item} (hy : n[j]? = some y) (hq : q y = false) : (n.take (j + 1)).filter q = (n.take j).filter q := by
  rw [List.take_add_one, hy, List.filter_append]; simp [hq]
theorem free_kept (l : List (List Item)) (run : List Int) : freeB l run = ((keptL l run).length == 0) := by
  unfold freeB keptL
  induction l with
  | nil => rfl
  | cons s l ih =>
    rw [List.any_cons, List.flatMap_cons, List.length_append, Bool.not_or, ih]
    have : (!s.any (heldBy run)) = ((s.filter (heldBy run)).length == 0) := by
      cases h : s.any (heldBy run)
      · have : s.filter (heldBy run) = [] := List.filter_eq_nil_iff.2 (fun x hx => by
          have := List.any_eq_false.1 h x hx; simpa using this)
        rw [this]; rfl
      · obtain ⟨x, hx, hh⟩ := List.any_eq_true.1 h
        have hm : x ∈ s.filter (heldBy run) := List.mem_filter.2 ⟨hx, hh⟩
        have : 0 < (s.filter (heldBy run)).length := List.length_pos_of_mem hm
        simp
        exact ⟨x, hx, hh⟩
    rw [this]
    cases h1 : (s.filter (heldBy run)).length == 0 <;> cases h2 : (l.flatMap fun s => s.filter (heldBy run)).length == 0 <;> simp_all

set_option maxHeartbeats 800000 in
theorem dealloc_asked {l : List (List Item)} {num : Int} {run : List Int} {s v : Value} {w : World} (hl : Sts w s l) (hr : Nts w v run) :
    Calls Try.prog 103 #[.agg #[.int .i64 num, s], v] w fun e w' => e = .returned (.int .i64 (askErr ⟨num, l⟩ run)) ∧ Ext w w' := by
  have hE0 := (Ext.refl w).alloc (.cells #[.int .i64 num, s] 24)
  have hl0 := hl.ext hE0
  have hr0 := hr.ext hE0
  obtain ⟨a, cp, rfl, -⟩ := hl.form
  obtain ⟨a2, cp2, rfl, -⟩ := hr.form
  have bM := Box.new w 24 #[.int .i64 num, .slice a l.length cp]
  clear hl hr
  cases hok : okR run
  · have h8 := Lib.hid (runErr_bad hok)
    have hres : Hid (askErr ⟨num, l⟩ run = 8) := Hid.mk (by simp [askErr, hok])
    clear hok
    go_enter Try.func103, Try.ntmps103
    go_wp2_with fail
    refine (guard_Check hr0).mono ?_
    rintro e w1 ⟨rfl, rfl⟩
    rw [h8.out]
    go_wp2
    go_ret
    exact ⟨by rw [hres.out] <;> rfl, hE0⟩
  · have h0 := Lib.hid (runErr_ok hok)
    have hres : Hid (askErr ⟨num, l⟩ run = stkErr ⟨num, l⟩) := Hid.mk (by simp [askErr, hok])
    clear hok
    go_enter Try.func103, Try.ntmps103
    go_wp2_with fail
    refine (guard_Check hr0).mono ?_
    rintro e w1 ⟨rfl, rfl⟩
    rw [h0.out]
    go_wp2_with fail
    refine (stacks_Check hl0).mono ?_
    rintro e w2 ⟨rfl, hE2⟩
    go_wp2
    go_ret
    exact ⟨by rw [hres.out] <;> rfl, hE0.trans hE2⟩

set_option maxHeartbeats 800000 in
theorem ref34_asked {l : List (List Item)} {num : Int} {run : List Int} {s v : Value} {w : World} (hl : Sts w s l) (hr : Nts w v run) :
    Calls Try.prog 104 #[.agg #[.int .i64 num, s], v] w fun e w' => e = .returned (.int .i64 (askErr ⟨num, l⟩ run)) ∧ Ext w w' := by
  have hE0 := (Ext.refl w).alloc (.cells #[.int .i64 num, s] 24)
  have hl0 := hl.ext hE0
  have hr0 := hr.ext hE0
  obtain ⟨a, cp, rfl, -⟩ := hl.form
  obtain ⟨a2, cp2, rfl, -⟩ := hr.form
  have bM := Box.new w 24 #[.int .i64 num, .slice a l.length cp]
  clear hl hr
  cases hok : okR run
  · have h8 := Lib.hid (runErr_bad hok)
    have hres : Hid (askErr ⟨num, l⟩ run = 8) := Hid.mk (by simp [askErr, hok])
    clear hok
    go_enter Try.func104, Try.ntmps104
    go_wp2_with fail
    refine (ref31_Check hr0).mono ?_
    rintro e w1 ⟨rfl, rfl⟩
    rw [h8.out]
    go_wp2
    go_ret
    exact ⟨by rw [hres.out] <;> rfl, hE0⟩
  · have h0 := Lib.hid (runErr_ok hok)
    have hres : Hid (askErr ⟨num, l⟩ run = stkErr ⟨num, l⟩) := Hid.mk (by simp [askErr, hok])
    clear hok
    go_enter Try.func104, Try.ntmps104
    go_wp2_with fail
    refine (ref31_Check hr0).mono ?_
    rintro e w1 ⟨rfl, rfl⟩
    rw [h0.out]
    go_wp2_with fail
    refine (ref33_Check hl0).mono ?_
    rintro e w2 ⟨rfl, hE2⟩
    go_wp2
    go_ret
    exact ⟨by rw [hres.out] <;> rfl, hE0.trans hE2⟩

set_option maxHeartbeats 1600000 in
theorem ref34_Kept {l : List (List Item)} {run : List Int} {num : Int} {s v : Value} {w : World} (hl : Sts w s l) (hr : Nts w v run) (hsm : l.length ≤ 2 ∧ ∀ s ∈ l, s.length ≤ 600) :
    Calls Try.prog 96 #[.agg #[.int .i64 num, s], v] w (RetL 38 w (keptL l run)) := by
  have hE0 := (Ext.refl w).alloc (.cells #[.int .i64 num, s] 24)
  have hl0 := hl.ext hE0
  have hr0 := hr.ext hE0
  obtain ⟨a, cp, rfl, hlc, hcm, -⟩ := hl.form
  obtain ⟨a2, cp2, rfl, -⟩ := hr.form
  unfold maxLen at hcm
  have hW := Lib.hid hl0
  have hR := Lib.hid hr0
  clear hl hl0 hr hr0
  go_enter Try.func96, Try.ntmps96
  go_wp2
  obtain ⟨w1, hw1⟩ : ∃ w1, w.alloc (.cells #[.int .i64 num, .slice a l.length cp] 24) = w1 := ⟨_, rfl⟩
  have b2 : w1.cell? ⟨w.heap.size, 1, none⟩ = some (.slice a l.length cp) := by rw [← hw1]; simp
  rw [hw1] at hE0 hW hR ⊢
  clear hw1
  go_loopw [5, 6] (fun ov iv wr => ∃ k : Nat, k ≤ l.length ∧ iv = .int .i64 k ∧ OwnI wr w1.heap.size ov (keptL (l.take k) run) ∧ Ext w1 wr) (fun _ iv _ => l.length - (intOf iv).toNat)
  case atStart => exact ⟨0, Nat.zero_le _, rfl, OwnI.nil _ _, Ext.refl _⟩
  case round =>
    obtain ⟨k, hk, rfl, hO, hE⟩ := hrel
    have hklen := kept_len (run := run) hsm.2 k
    have e0 := hE.cell b2
    by_cases hlt : k < l.length
    · obtain ⟨x, hx⟩ : ∃ x, l[k]? = some x := ⟨l[k], by simp [hlt]⟩
      have hx6 : x.length ≤ 600 := hsm.2 x (List.mem_of_getElem? hx)
      obtain ⟨b, off, sv, rfl, hbb, d1, hcl⟩ := hW.out.cell hx
      have d0 := hE.cell d1
      have hX := Lib.hid hx
      obtain ⟨ca, ccp, rfl, hclc, hccm, -⟩ := hcl.form
      unfold maxLen at hccm
      have hC := Lib.hid hcl
      clear hx hbb hcl
      go_wp2
      clear d0
      go_loopw [5, 7] (fun ov jv wq => ∃ j : Nat, j ≤ x.length ∧ jv = .int .i64 j ∧ OwnI wq w1.heap.size ov (keptL (l.take k) run ++ (x.take j).filter (heldBy run)) ∧ Ext w1 wq) (fun _ jv _ => x.length - (intOf jv).toNat)
      case atStart => exact ⟨0, Nat.zero_le _, rfl, by simpa using hO, hE⟩
      case round =>
        obtain ⟨j, hj, rfl, hQ, hY⟩ := hrel
        have e1 : World.cell? wr ⟨w.heap.size, 1, none⟩ = some (.slice (some ⟨b, off, none⟩) l.length cp) := hY.cell b2
        have d3 : World.cell? wr ⟨b, off + k, none⟩ = some (.slice ca x.length ccp) := hY.cell d1
        by_cases hjl : j < x.length
        · obtain ⟨y, hy⟩ : ∃ y, x[j]? = some y := ⟨x[j], by simp [hjl]⟩
          obtain ⟨b4, off4, rfl, hbb4, c0, c1, c2⟩ := (hC.out.ext hY).cell hy
          have hYl := Lib.hid hy
          obtain ⟨yp, yt, yc⟩ := y
          have hEa := (Ext.refl wr).alloc (.cells #[.int .u8 yp, .int .i64 yt, .int .i64 yc] 38)
          have hflen : ((x.take j).filter (heldBy run)).length ≤ 600 := by
            have h1 := List.length_filter_le (heldBy run) (x.take j)
            rw [List.length_take] at h1
            omega
          clear hy hbb4
          cases hh : hasR run yc
          · have hh' := Lib.hid hh
            have hM2 : Hid ((x.take (j + 1)).filter (heldBy run) = (x.take j).filter (heldBy run)) := Hid.mk (filt_no hYl.out hh)
            clear hh
            go_wp2_with fail
            refine (ref31_Runs yc (hR.out.ext hY)).mono ?_
            rintro e wz ⟨rfl, rfl⟩
            rw [hh'.out]
            go_wp2
            go_roundw
            case rel => exact ⟨j + 1, by omega, by go_num, by rw [hM2.out]; exact hQ, hY⟩
            case measure => simp [intOf]; omega
          · have hh' := Lib.hid hh
            have hM2 : Hid (keptL (l.take k) run ++ (x.take (j + 1)).filter (heldBy run) = (keptL (l.take k) run ++ (x.take j).filter (heldBy run)) ++ [⟨yp, yt, yc⟩]) := Hid.mk (by rw [filt_yes hYl.out hh, List.append_assoc])
            clear hh
            obtain ⟨KL, hKL⟩ : ∃ KL, keptL (l.take k) run ++ (x.take j).filter (heldBy run) = KL := ⟨_, rfl⟩
            rw [hKL] at hQ hM2
            have hKl : KL.length ≤ 10000 := by rw [← hKL, List.length_append]; omega
            clear hKL
            obtain ⟨qa, qc, rfl, -⟩ := hQ.its.form
            have hQ' := Lib.hid hQ
            clear hQ
            go_wp2_with fail
            refine (ref31_Runs yc (hR.out.ext hY)).mono ?_
            rintro e wz ⟨rfl, rfl⟩
            rw [hh'.out]
            have hWx : Ext wr wr := Ext.refl wr
            have hE6 : Ext wr (wr.alloc (.cells #[.int .u8 yp, .int .i64 yt, .int .i64 yc] 38)) := hWx.alloc _
            have hS6 : Sl (wr.alloc (.cells #[.int .u8 yp, .int .i64 yt, .int .i64 yc] 38)) 3 (.slice (some ⟨wr.heap.size, 0, none⟩) 1 1) 1 (Item.row ⟨yp, yt, yc⟩) := (Own.lit' (B := 0) (e := 38) (k := 3) wr #[.int .u8 yp, .int .i64 yt, .int .i64 yc] 1 (Nat.zero_le _) (by simp [maxLen]) rfl).sl
            obtain ⟨ti, tz, hti, htz, hti3, htz3, htby⟩ := Item.infoE
            replace hti := Lib.hid hti; replace htz := Lib.hid htz; replace hti3 := Lib.hid hti3; replace htz3 := Lib.hid htz3; replace htby := Lib.hid htby
            have hS6' := Lib.hid hS6
            have hE6' := Lib.hid hE6
            clear hS6 hE6
            go_wp2_with (at_builtin; refine Hid.out ?_)
            refine Hid.mk ?_
            refine wpList_append_any rfl _ _ 35 35 rfl rfl rfl Try.underlying35 Try.underlying35 hti.out htz.out hti3.out htz3.out (Own.ext hQ'.out hE6'.out) hS6'.out (by simp [Item.row, Value.oneCell']) (by simp [maxLen]; omega) (by rw [htby.out]; omega) (Nat.le_trans hY.size hE6'.out.size) ?_
            intro v' w6 hOv hKv _ _
            have hOw : OwnI w6 w1.heap.size v' (KL ++ [⟨yp, yt, yc⟩]) := by
              unfold OwnI
              rw [List.length_append, List.flatMap_append]
              simpa using hOv
            have hX6 : Ext w1 w6 := ExtBut.ext (hY.trans hE6'.out) ((ExtBut.of_keeps hKv).mono (S' := fun b => w1.heap.size ≤ b) (fun b _ hb => (hQ'.out.lt _ hb).1)) (fun b hb => hb) |> fun h => h
            clear hOv hKv
            go_wp2
            go_roundw
            case rel => exact ⟨j + 1, by omega, by go_num, by rw [hM2.out]; exact hOw, hX6⟩
            case measure => simp [intOf]; omega
        · have hje : j = x.length := by omega
          subst hje
          have hN2 : Hid (keptL (l.take (k + 1)) run = keptL (l.take k) run ++ (x.take x.length).filter (heldBy run)) := Hid.mk (by rw [kept_succ hX.out, List.take_length])
          go_wp2
          go_roundw
          case rel => exact ⟨k + 1, by omega, by go_num, by rw [hN2.out]; exact hQ, hY⟩
          case measure => simp [intOf]; omega
    · have hkl : k = l.length := by omega
      subst hkl
      rw [List.take_length] at hO
      obtain ⟨fa, fc, rfl, -⟩ := hO.its.form
      go_wp2
      go_ret
      exact ⟨_, rfl, OwnI.mono hO hE0.size, hE0.trans hE⟩

end Go.Proofs.Ytebocgnbcokogaa
