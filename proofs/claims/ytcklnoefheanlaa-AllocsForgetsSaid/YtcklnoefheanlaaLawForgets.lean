/- The statement AllocsForgets: for every memory the call returns true. No condition. -/
import Derived.Test.YtcklnoefheanlaaAlive26
import Derived.Test.YtcklnoefheanlaaReadM
import Derived.Test.YtcklnoefheanlaaClose
namespace Go.Proofs.Ytcklnoefheanlaa
open Go.ChangeShapes Go.WideShapes Go.ChangeAt Go.RowKit

theorem okAl_least {next least least' : Int} {l : List Alloc} (hle : least' ≤ least) (h : okAl next least l = true) : okAl next least' l = true := by
  cases l with
  | nil => rfl
  | cons a l =>
    simp only [okAl, Bool.and_eq_true, decide_eq_true_eq] at h ⊢
    exact ⟨⟨⟨⟨⟨by omega, h.1.1.1.1.2⟩, h.1.1.1.2⟩, h.1.1.2⟩, h.1.2⟩, h.2⟩
theorem okAl_filter {next : Int} : ∀ (l : List Alloc) (least : Int), okAl next least l = true → okAl next least (l.filter (·.live)) = true
  | [], _, _ => rfl
  | a :: l, least, h => by
    have h0 := h
    simp only [okAl, Bool.and_eq_true, decide_eq_true_eq] at h
    have ih := okAl_filter l _ h.2
    cases hl : a.live
    · rw [List.filter_cons_of_neg (by simp [hl])]
      exact okAl_least (by omega) ih
    · rw [List.filter_cons_of_pos (by simp [hl])]
      simp only [okAl, Bool.and_eq_true, decide_eq_true_eq]
      exact ⟨h.1, ih⟩
theorem ok_filter {m : Mem} (h : m.ok = true) : (⟨m.al.filter (·.live), m.next⟩ : Mem).ok = true := by
  unfold Mem.ok okM at h ⊢
  simp only [Bool.and_eq_true, decide_eq_true_eq] at h ⊢
  exact ⟨⟨Nat.le_trans (List.length_filter_le _ _) h.1.1, h.1.2⟩, okAl_filter _ _ h.2⟩
theorem forgetR_twice {m : Mem} (h : m.ok = true) : forgetR ⟨m.al.filter (·.live), m.next⟩ = (⟨m.al.filter (·.live), m.next⟩, 0) := by
  rw [forgetR_ok (ok_filter h)]
  simp
theorem filter_step {α : Type} {p : α → Bool} {l : List α} {k : Nat} {x : α} (hx : l[k]? = some x) : ((l.take (k + 1)).filter p).length = ((l.take k).filter p).length + (if p x then 1 else 0) := by
  rw [List.take_add_one, hx, List.filter_append]
  cases h : p x <;> simp [h]
theorem filter_at {α : Type} {p : α → Bool} {l : List α} {k : Nat} {x : α} (hx : l[k]? = some x) (hp : p x = true) : (l.filter p)[((l.take k).filter p).length]? = some x := by
  obtain ⟨hk, e⟩ := List.getElem?_eq_some_iff.1 hx
  have h2 : l = l.take k ++ x :: l.drop (k + 1) := by
    rw [← e, ← List.drop_eq_getElem_cons hk, List.take_append_drop]
  conv => lhs; arg 1; rw [h2]
  rw [List.filter_append, List.filter_cons_of_pos hp, List.getElem?_append_right (Nat.le_refl _), Nat.sub_self]
  rfl

theorem small_of_great'' {l : List Alloc} (h : greatM l = false) : small l := by
  rw [greatM_eq, Bool.or_eq_false_iff] at h
  obtain ⟨h1, h2⟩ := h
  have h3 : l.length ≤ 410 := by simpa using h2
  rw [List.take_of_length_le (by omega)] at h1
  refine ⟨by omega, fun a ha => ?_⟩
  have := List.any_eq_false.1 h1 a ha
  simp [wide] at this
  omega

set_option maxRecDepth 100000 in
set_option maxHeartbeats 6400000 in
theorem allocsForgets_walk {m : Mem} {s : Value} {w : World} (hl : Als w s m.al) (hn : i64B m.next) :
    Calls Try.prog 9 #[.agg #[s, .int .i64 m.next]] w fun e w' => e = .returned (.bool true) ∧ Ext w w' := by
  have hF := (Ext.refl w).alloc (.cells #[s, .int .i64 m.next] 31)
  have bM := Box.new w 31 #[s, .int .i64 m.next]
  have hL := hl.ext hF
  obtain ⟨a, cp, rfl, hlc, hcm, -⟩ := hl.form
  unfold maxLen at hcm
  clear hl
  cases hg : greatM m.al
  · have hg' := Lib.hid hg
    clear hg
    cases hok : m.ok
    · have hme := Lib.hid (memErr_bad hok)
      clear hok
      go_enter Try.func9, Try.ntmps9
      have bM_0 : World.cell? (World.alloc w (.cells #[.slice a m.al.length cp, .int .i64 m.next] 31)) ⟨w.heap.size, 0, none⟩ = some (.slice a m.al.length cp) := bM.cell 0
      have bM_1 : World.cell? (World.alloc w (.cells #[.slice a m.al.length cp, .int .i64 m.next] 31)) ⟨w.heap.size, 1, none⟩ = some (.int .i64 m.next) := bM.cell 1
      have bM_l := bM.lt
      go_wp2_with fail
      clear bM_0 bM_1 bM_l
      refine (law26_alive _).mono ?_
      rintro e w1 ⟨rfl, hE0⟩
      replace bM := bM.ext hE0
      replace hL := hL.ext hE0
      have hF0 := Ext.trans (hF) hE0
      have bM_0 : World.cell? w1 ⟨w.heap.size, 0, none⟩ = some (.slice a m.al.length cp) := bM.cell 0
      have bM_1 : World.cell? w1 ⟨w.heap.size, 1, none⟩ = some (.int .i64 m.next) := bM.cell 1
      have bM_l := bM.lt
      go_wp2_with fail
      clear bM_0 bM_1 bM_l
      refine (ref26_Great hL).mono ?_
      rintro e w2 ⟨rfl, hE1⟩
      replace bM := bM.ext hE1
      replace hL := hL.ext hE1
      have hF1 := Ext.trans (hF0) hE1
      rw [hg'.out]
      have bM_0 : World.cell? w2 ⟨w.heap.size, 0, none⟩ = some (.slice a m.al.length cp) := bM.cell 0
      have bM_1 : World.cell? w2 ⟨w.heap.size, 1, none⟩ = some (.int .i64 m.next) := bM.cell 1
      have bM_l := bM.lt
      go_wp2_with fail
      clear bM_0 bM_1 bM_l
      refine (ref26_Check hL hn).mono ?_
      rintro e w3 ⟨rfl, hE2⟩
      replace bM := bM.ext hE2
      replace hL := hL.ext hE2
      have hF2 := Ext.trans (hF1) hE2
      rw [hme.out]
      go_wp2
      go_ret
      exact ⟨rfl, hF2⟩
    · have hme := Lib.hid (memErr_ok hok)
      obtain ⟨FL, hFL⟩ : ∃ FL, m.al.filter (·.live) = FL := ⟨_, rfl⟩
      have hf1 := forgetR_ok hok
      have hf2 := forgetR_twice hok
      rw [hFL] at hf1 hf2
      have hFlen : FL.length ≤ m.al.length := by rw [← hFL]; exact List.length_filter_le _ _
      have hf1 := Lib.hid hf1
      have hf2 := Lib.hid hf2
      have hFL := Lib.hid hFL
      clear hok
      go_enter Try.func9, Try.ntmps9
      have bM_0 : World.cell? (World.alloc w (.cells #[.slice a m.al.length cp, .int .i64 m.next] 31)) ⟨w.heap.size, 0, none⟩ = some (.slice a m.al.length cp) := bM.cell 0
      have bM_1 : World.cell? (World.alloc w (.cells #[.slice a m.al.length cp, .int .i64 m.next] 31)) ⟨w.heap.size, 1, none⟩ = some (.int .i64 m.next) := bM.cell 1
      have bM_l := bM.lt
      go_wp2_with fail
      clear bM_0 bM_1 bM_l
      refine (law26_alive _).mono ?_
      rintro e w1 ⟨rfl, hE0⟩
      replace bM := bM.ext hE0
      replace hL := hL.ext hE0
      have hF0 := Ext.trans (hF) hE0
      have bM_0 : World.cell? w1 ⟨w.heap.size, 0, none⟩ = some (.slice a m.al.length cp) := bM.cell 0
      have bM_1 : World.cell? w1 ⟨w.heap.size, 1, none⟩ = some (.int .i64 m.next) := bM.cell 1
      have bM_l := bM.lt
      go_wp2_with fail
      clear bM_0 bM_1 bM_l
      refine (ref26_Great hL).mono ?_
      rintro e w2 ⟨rfl, hE1⟩
      replace bM := bM.ext hE1
      replace hL := hL.ext hE1
      have hF1 := Ext.trans (hF0) hE1
      rw [hg'.out]
      have bM_0 : World.cell? w2 ⟨w.heap.size, 0, none⟩ = some (.slice a m.al.length cp) := bM.cell 0
      have bM_1 : World.cell? w2 ⟨w.heap.size, 1, none⟩ = some (.int .i64 m.next) := bM.cell 1
      have bM_l := bM.lt
      go_wp2_with fail
      clear bM_0 bM_1 bM_l
      refine (ref26_Check hL hn).mono ?_
      rintro e w3 ⟨rfl, hE2⟩
      replace bM := bM.ext hE2
      replace hL := hL.ext hE2
      have hF2 := Ext.trans (hF1) hE2
      rw [hme.out]
      have bM_0 : World.cell? w3 ⟨w.heap.size, 0, none⟩ = some (.slice a m.al.length cp) := bM.cell 0
      have bM_1 : World.cell? w3 ⟨w.heap.size, 1, none⟩ = some (.int .i64 m.next) := bM.cell 1
      have bM_l := bM.lt
      go_wp2_with fail
      clear bM_0 bM_1 bM_l
      refine (allocs_Forget hL hn).mono ?_
      rintro e w4 ⟨qx, rfl, fx, hE3⟩
      replace bM := bM.ext hE3
      replace hL := hL.ext hE3
      have hF3 := Ext.trans (hF2) hE3
      rw [hf1.out] at fx
      rw [hf1.out]
      obtain ⟨qx', rfl, hx⟩ := fx.read
      obtain ⟨sx, cx, rfl, hcx, -⟩ := hx.form
      clear fx
      dsimp only
      have bM_0 : World.cell? w4 ⟨w.heap.size, 0, none⟩ = some (.slice a m.al.length cp) := bM.cell 0
      have bM_1 : World.cell? w4 ⟨w.heap.size, 1, none⟩ = some (.int .i64 m.next) := bM.cell 1
      have bM_l := bM.lt
      go_wp2_with fail
      clear bM_0 bM_1 bM_l
      have bXX := Box.new w4 31 #[.slice sx FL.length cx, .int .i64 m.next]
      have hx4 : Ext w4 (World.alloc w4 (.cells #[.slice sx FL.length cx, .int .i64 m.next] 31)) := (Ext.refl _).alloc _
      obtain ⟨w4b, hw4⟩ : ∃ x, World.alloc w4 (.cells #[.slice sx FL.length cx, .int .i64 m.next] 31) = x := ⟨_, rfl⟩
      rw [hw4] at bXX hx4 ⊢
      clear hw4
      replace bM := bM.ext hx4
      replace hL := hL.ext hx4
      replace hx := hx.ext hx4
      have hF4 := Ext.trans (hF3) hx4
      refine (allocs_Forget (m := ⟨FL, m.next⟩) hx hn).mono ?_
      rintro e w6 ⟨qy, rfl, fy, hE5⟩
      replace bM := bM.ext hE5
      replace hL := hL.ext hE5
      replace hx := hx.ext hE5
      replace bXX := bXX.ext hE5
      have hF5 := Ext.trans (hF4) hE5
      rw [hf2.out] at fy
      rw [hf2.out]
      obtain ⟨qy', rfl, hy⟩ := fy.read
      obtain ⟨sy, cy, rfl, hcy, -⟩ := hy.form
      clear fy
      dsimp only
      have bM_0 : World.cell? w6 ⟨w.heap.size, 0, none⟩ = some (.slice a m.al.length cp) := bM.cell 0
      have bM_1 : World.cell? w6 ⟨w.heap.size, 1, none⟩ = some (.int .i64 m.next) := bM.cell 1
      have bM_l := bM.lt
      have bXX_0 : World.cell? w6 ⟨w4.heap.size, 0, none⟩ = some (.slice sx FL.length cx) := bXX.cell 0
      have bXX_1 : World.cell? w6 ⟨w4.heap.size, 1, none⟩ = some (.int .i64 m.next) := bXX.cell 1
      have bXX_l := bXX.lt
      go_wp2_with fail
      clear bM_0 bM_1 bM_l
      clear bXX_0 bXX_1 bXX_l
      have bYY := Box.new w6 31 #[.slice sy FL.length cy, .int .i64 m.next]
      have hx6 : Ext w6 (World.alloc w6 (.cells #[.slice sy FL.length cy, .int .i64 m.next] 31)) := (Ext.refl _).alloc _
      obtain ⟨w6b, hw6⟩ : ∃ x, World.alloc w6 (.cells #[.slice sy FL.length cy, .int .i64 m.next] 31) = x := ⟨_, rfl⟩
      rw [hw6] at bYY hx6 ⊢
      clear hw6
      replace bM := bM.ext hx6
      replace hL := hL.ext hx6
      replace hx := hx.ext hx6
      replace bXX := bXX.ext hx6
      replace hy := hy.ext hx6
      have hF6 := Ext.trans (hF5) hx6
      refine (ref26_Same hx hy).mono ?_
      rintro e w8 ⟨rfl, hE7⟩
      replace bM := bM.ext hE7
      replace hL := hL.ext hE7
      replace hx := hx.ext hE7
      replace bXX := bXX.ext hE7
      replace hy := hy.ext hE7
      replace bYY := bYY.ext hE7
      have hF7 := Ext.trans (hF6) hE7
      have bM_0 : World.cell? w8 ⟨w.heap.size, 0, none⟩ = some (.slice a m.al.length cp) := bM.cell 0
      have bM_1 : World.cell? w8 ⟨w.heap.size, 1, none⟩ = some (.int .i64 m.next) := bM.cell 1
      have bM_l := bM.lt
      have bXX_0 : World.cell? w8 ⟨w4.heap.size, 0, none⟩ = some (.slice sx FL.length cx) := bXX.cell 0
      have bXX_1 : World.cell? w8 ⟨w4.heap.size, 1, none⟩ = some (.int .i64 m.next) := bXX.cell 1
      have bXX_l := bXX.lt
      have bYY_0 : World.cell? w8 ⟨w6.heap.size, 0, none⟩ = some (.slice sy FL.length cy) := bYY.cell 0
      have bYY_1 : World.cell? w8 ⟨w6.heap.size, 1, none⟩ = some (.int .i64 m.next) := bYY.cell 1
      have bYY_l := bYY.lt
      go_wp2
      clear bM_0 bM_1 bM_l
      clear bXX_0 bXX_1 bXX_l
      clear bYY_0 bYY_1 bYY_l
      have hA := Lib.hid (And.intro bM (And.intro bXX (And.intro hL (And.intro hx hF7))))
      clear bM bXX hL hx hy bYY
      go_loopw [8, 9] (fun nv iv wr => ∃ k j : Nat, k ≤ m.al.length ∧ iv = .int .i64 k ∧ nv = .int .i64 j ∧ Hid (j = ((m.al.take k).filter (·.live)).length) ∧ Ext w8 wr) (fun _ iv _ => m.al.length - (intOf iv).toNat)
      case atStart => exact ⟨0, 0, Nat.zero_le _, rfl, rfl, Hid.mk (by simp), Ext.refl _⟩
      case round =>
        obtain ⟨k, j, hk, rfl, rfl, hj, hE⟩ := hrel
        have bM := hA.out.1.ext hE
        have bX := hA.out.2.1.ext hE
        have m0 : wr.cell? ⟨w.heap.size, 0, none⟩ = some (.slice a m.al.length cp) := bM.cell 0
        have x0 : wr.cell? ⟨w4.heap.size, 0, none⟩ = some (.slice sx FL.length cx) := bX.cell 0
        by_cases hlt : k < m.al.length
        · obtain ⟨x, hx⟩ : ∃ x, m.al[k]? = some x := ⟨m.al[k], by simp [hlt]⟩
          obtain ⟨b, off, sv, rfl, hbb, c0, c1, c2, hc⟩ := (hA.out.2.2.1.ext hE).cell hx
          have hi0 : (0 : Int) ≤ (k : Int) := by omega
          have hi1 : (k : Int) < (m.al.length : Int) := by omega
          cases hlv : x.live
          · rw [hlv] at c1
            have hst : Hid (j = ((m.al.take (k + 1)).filter (·.live)).length) := Hid.mk (by rw [filter_step hx, hj.out]; simp [hlv])
            clear hx hc bM bX hlv
            go_wp2
            go_roundw
            case rel => exact ⟨k + 1, j, by omega, by go_num, rfl, hst, hE⟩
            case measure => simp [intOf]; omega
          · rw [hlv] at c1
            have hst : Hid (j + 1 = ((m.al.take (k + 1)).filter (·.live)).length) := Hid.mk (by rw [filter_step hx, hj.out]; simp [hlv])
            have hat : FL[j]? = some x := by rw [← hFL.out, hj.out]; exact filter_at hx hlv
            have hjl : j < FL.length := (List.getElem?_eq_some_iff.1 hat).1
            obtain ⟨b', off', su, rfl, hbb', d0, d1, d2, hd⟩ := (hA.out.2.2.2.1.ext hE).cell hat
            rw [hlv] at d1
            have hj0 : (0 : Int) ≤ (j : Int) := by omega
            have hj1 : (j : Int) < (FL.length : Int) := by omega
            have hj2 : decide ((FL.length : Int) ≤ (j : Int)) = false := decide_eq_false (by omega)
            have hj3 : decide (FL.length ≤ j) = false := decide_eq_false (by omega)
            have hC := Lib.hid (And.intro hc hlv)
            have hD := Lib.hid hd
            clear hx hc hd hat bM bX hlv
            go_wp2
            have hSk : ∀ w' w'' : World, (w'.cell? ⟨w.heap.size, 0, none⟩ = some (.slice (some ⟨b, off, none⟩) m.al.length cp) ∧ w'.cell? ⟨w4.heap.size, 0, none⟩ = some (.slice (some ⟨b', off', none⟩) FL.length cx) ∧ w'.cell? ⟨b, off + k * 3, none⟩ = some (.int .i64 x.num) ∧ w'.cell? ⟨b, off + k * 3 + 1, none⟩ = some (.bool true) ∧ w'.cell? ⟨b, off + k * 3 + 2, none⟩ = some (sv) ∧ w'.cell? ⟨b', off' + j * 3, none⟩ = some (.int .i64 x.num) ∧ w'.cell? ⟨b', off' + j * 3 + 1, none⟩ = some (.bool true) ∧ w'.cell? ⟨b', off' + j * 3 + 2, none⟩ = some (su) ∧ Ext wr w') → Ext w' w'' → (w''.cell? ⟨w.heap.size, 0, none⟩ = some (.slice (some ⟨b, off, none⟩) m.al.length cp) ∧ w''.cell? ⟨w4.heap.size, 0, none⟩ = some (.slice (some ⟨b', off', none⟩) FL.length cx) ∧ w''.cell? ⟨b, off + k * 3, none⟩ = some (.int .i64 x.num) ∧ w''.cell? ⟨b, off + k * 3 + 1, none⟩ = some (.bool true) ∧ w''.cell? ⟨b, off + k * 3 + 2, none⟩ = some (sv) ∧ w''.cell? ⟨b', off' + j * 3, none⟩ = some (.int .i64 x.num) ∧ w''.cell? ⟨b', off' + j * 3 + 1, none⟩ = some (.bool true) ∧ w''.cell? ⟨b', off' + j * 3 + 2, none⟩ = some (su) ∧ Ext wr w'') := by
              rintro w' w'' ⟨k0, k1, k2, k3, k4, k5, k6, k7, kE⟩ h
              exact ⟨h.cell k0, h.cell k1, h.cell k2, h.cell k3, h.cell k4, h.cell k5, h.cell k6, h.cell k7, Ext.trans kE h⟩
            go_region_held3 (fun w' => (w'.cell? ⟨w.heap.size, 0, none⟩ = some (.slice (some ⟨b, off, none⟩) m.al.length cp) ∧ w'.cell? ⟨w4.heap.size, 0, none⟩ = some (.slice (some ⟨b', off', none⟩) FL.length cx) ∧ w'.cell? ⟨b, off + k * 3, none⟩ = some (.int .i64 x.num) ∧ w'.cell? ⟨b, off + k * 3 + 1, none⟩ = some (.bool true) ∧ w'.cell? ⟨b, off + k * 3 + 2, none⟩ = some (sv) ∧ w'.cell? ⟨b', off' + j * 3, none⟩ = some (.int .i64 x.num) ∧ w'.cell? ⟨b', off' + j * 3 + 1, none⟩ = some (.bool true) ∧ w'.cell? ⟨b', off' + j * 3 + 2, none⟩ = some (su) ∧ Ext wr w')) (first | assumption | exact ⟨m0, x0, c0, c1, c2, d0, d1, d2, (Ext.refl _).drew⟩ | (refine hSk _ _ (by assumption) ?_; first | assumption | exact (Ext.refl _).alloc _ | exact ((Ext.refl _).alloc _).drew)) (first | (go_at_call 35; refine (ref26_SameAlloc (hD.out.ext ?_) (hC.out.1.ext ?_)).mono ?_; (exact And.right (And.right (And.right (And.right (And.right (And.right (And.right (And.right (by assumption))))))))); (exact And.right (And.right (And.right (And.right (And.right (And.right (And.right (And.right (by assumption))))))))); rintro e wr0 ⟨rfl, hR0⟩))
            have hRR := And.right (And.right (And.right (And.right (And.right (And.right (And.right (And.right ((by assumption : (World.cell? _ ⟨w.heap.size, 0, none⟩ = some (.slice (some ⟨b, off, none⟩) m.al.length cp) ∧ World.cell? _ ⟨w4.heap.size, 0, none⟩ = some (.slice (some ⟨b', off', none⟩) FL.length cx) ∧ World.cell? _ ⟨b, off + k * 3, none⟩ = some (.int .i64 x.num) ∧ World.cell? _ ⟨b, off + k * 3 + 1, none⟩ = some (.bool true) ∧ World.cell? _ ⟨b, off + k * 3 + 2, none⟩ = some (sv) ∧ World.cell? _ ⟨b', off' + j * 3, none⟩ = some (.int .i64 x.num) ∧ World.cell? _ ⟨b', off' + j * 3 + 1, none⟩ = some (.bool true) ∧ World.cell? _ ⟨b', off' + j * 3 + 2, none⟩ = some (su) ∧ Ext wr _))))))))))
            go_wp2
            go_roundw
            case rel => exact ⟨k + 1, j + 1, by omega, by go_num, by go_num, hst, hE.trans hRR⟩
            case measure => simp [intOf]; omega
        · have hkl : k = m.al.length := by omega
          have hjl : (j : Int) = (FL.length : Int) := by
            have h := hj.out
            rw [hkl, List.take_length, hFL.out] at h
            omega
          clear hkl bM bX
          rw [hjl]
          go_wp2
          go_ret
          exact ⟨rfl, hA.out.2.2.2.2.trans hE⟩
  · have hg' := Lib.hid hg
    clear hg
    go_enter Try.func9, Try.ntmps9
    have bM_0 : World.cell? (World.alloc w (.cells #[.slice a m.al.length cp, .int .i64 m.next] 31)) ⟨w.heap.size, 0, none⟩ = some (.slice a m.al.length cp) := bM.cell 0
    have bM_1 : World.cell? (World.alloc w (.cells #[.slice a m.al.length cp, .int .i64 m.next] 31)) ⟨w.heap.size, 1, none⟩ = some (.int .i64 m.next) := bM.cell 1
    have bM_l := bM.lt
    go_wp2_with fail
    clear bM_0 bM_1 bM_l
    refine (law26_alive _).mono ?_
    rintro e w1 ⟨rfl, hE0⟩
    replace bM := bM.ext hE0
    replace hL := hL.ext hE0
    have hF0 := Ext.trans (hF) hE0
    have bM_0 : World.cell? w1 ⟨w.heap.size, 0, none⟩ = some (.slice a m.al.length cp) := bM.cell 0
    have bM_1 : World.cell? w1 ⟨w.heap.size, 1, none⟩ = some (.int .i64 m.next) := bM.cell 1
    have bM_l := bM.lt
    go_wp2_with fail
    clear bM_0 bM_1 bM_l
    refine (ref26_Great hL).mono ?_
    rintro e w2 ⟨rfl, hE1⟩
    replace bM := bM.ext hE1
    replace hL := hL.ext hE1
    have hF1 := Ext.trans (hF0) hE1
    rw [hg'.out]
    go_wp2
    go_ret
    exact ⟨rfl, hF1⟩

set_option maxRecDepth 100000 in
theorem allocsForgets_lifted (os : Os) (started : os.Started) (H : Type) (enc : TypeId × Value → H) :
    ReturnsInHanded {} Try.checked os 9 .any (Rows.allocsForgetsSpec.pre6 enc Try.prog Try.f9 Rows.allocsForgetsRow.domain false) (Rows.allocsForgetsSpec.post enc Try.prog Try.f9 false true false false) := by
  refine returnsInHanded_of_change (C := Try.checked) Tryown started (by kernel_rfl) Try.func9
    (ChangeSpec.witness6 (enc := enc) (C := Try.checked) false ⟨#[], #[.agg #[.slice none 0 0, .int .i64 0]], []⟩ 8 (by kernel_rfl) (by kernel_rfl) (by kernel_rfl) (by kernel_rfl)) ?_
  intro W base args ds gs before hval0 hW _ _
  have hval : ∀ (j : Nat) t v, Try.f9.params[j]? = some t → args[j]? = some v → Value.okWide Try.prog W .any base t v := hval0
  have hW' := hW
  obtain ⟨p, q, hA0, hV, rfl, hfz, hnd⟩ := hW
  have hA : DataW.TrodAll enc Try.prog W 0 (fun _ => true) true Try.f9.params.toList args.toList ds p := hA0
  rw [Try.params9] at hA hval
  obtain ⟨v0, vs0, d0, ds0, p0, q0, hargs, rfl, rfl, h0, r0⟩ := trodAll_cons hA
  obtain ⟨rfl, rfl, rfl⟩ := trodAll_nil r0
  obtain rfl : args = #[v0] := by cases args; simp_all
  obtain ⟨x0, u0, rfl, k0, wf0⟩ := open_mem (hval 0 31 v0 rfl rfl) h0
  refine (allocsForgets_walk k0 wf0.1).mono fun e W' ⟨he, hb⟩ => ?_
  subst he
  exact ⟨_, rfl, post_law TrylaidOut (tb := 4) rfl Try.underlying4 (by kernel_rfl) rfl (fun ds hd => match ds, hd with | [a0], _ => rfl) hW' hb⟩

theorem allocsForgets_holds : Rows.AllocsForgetsSaid :=
  OpenClaim.holds_of_wide 9 Try.f9 rfl rfl rfl rfl rfl rfl rfl ⟨rfl, rfl, rfl, rfl, rfl⟩ rfl rfl rfl rfl rfl (by kernel_rfl) Try.func9 (by kernel_rfl)
    (of_decide_eq_true (by kernel_rfl)) (by unfold Func.isWrapper; first | (rw [if_pos (by decide +kernel)]; kernel_rfl) | (rw [if_neg (by decide +kernel)]; exact ⟨rfl, rfl⟩))
    (fun os started H enc _ => allocsForgets_lifted os started H enc)

end Go.Proofs.Ytcklnoefheanlaa
