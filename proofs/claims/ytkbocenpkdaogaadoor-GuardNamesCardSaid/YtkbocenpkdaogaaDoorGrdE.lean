/- Contracts: Enter of the reference; Held, the program's and the reference's. -/
import Derived.Test.YtkbocenpkdaogaaDoorGrdD
namespace Go.Proofs.YtkbocenpkdaogaaDoor
set_option maxRecDepth 100000
open Go.RowKit


theorem heldR_bad {l : List Item} {run : List Int} (h : okR run = false) : heldR l run = (0, 8) := by simp [heldR, h]
theorem heldR_item {l : List Item} {run : List Int} (h : okR run = true) (hi : l.all Item.ok = false) : heldR l run = (0, 8) := by simp [heldR, h, hi]
theorem heldR_none {l : List Item} {run : List Int} (h : okR run = true) (hi : l.all Item.ok = true) (hf : firstR l run = none) : heldR l run = (0, 6) := by simp [heldR, h, hi, hf]
theorem heldR_some {l : List Item} {run : List Int} {i : Nat} (h : okR run = true) (hi : l.all Item.ok = true) (hf : firstR l run = some i) : heldR l run = ((i : Int), 0) := by simp [heldR, h, hi, hf]
theorem chk_one (x : Item) : chk [x] = if x.ok then 0 else 8 := by simp [chk, okS]

set_option maxHeartbeats 1600000 in
theorem guard_Held {l : List Item} {run : List Int} {v u : Value} {w : World} (hl : Its w v l) (hr : Nts w u run) :
    Calls Tryd.prog 16 #[v, u] w fun e w' => e = .returned (.tuple #[.int .i64 (heldR l run).1, .int .i64 (heldR l run).2]) ∧ Ext w w' := by
  have hL := Lib.hid hl
  have hR := Lib.hid hr
  obtain ⟨a, cp, rfl, hlc, hcm, -⟩ := hl.form
  obtain ⟨a2, cp2, rfl, -⟩ := hr.form
  unfold maxLen at hcm
  clear hl hr
  cases hok : okR run
  · have h8 := Lib.hid (runErr_bad hok)
    have hres := Lib.hid (heldR_bad (l := l) hok)
    clear hok
    go_enter Tryd.func16, Tryd.ntmps16
    go_wp2_with fail
    refine (guard_Check hR.out).mono ?_
    rintro e w1 ⟨rfl, rfl⟩
    rw [h8.out]
    go_wp2
    go_ret2
    exact ⟨by rw [hres.out]; rfl, Ext.refl _⟩
  · have h0 := Lib.hid (runErr_ok hok)
    have hok' := Lib.hid hok
    clear hok
    go_enter Tryd.func16, Tryd.ntmps16
    go_wp2_with fail
    refine (guard_Check hR.out).mono ?_
    rintro e w1 ⟨rfl, rfl⟩
    rw [h0.out]
    go_wp2
    go_loopw [18] (fun iv wr => ∃ k : Nat, k ≤ l.length ∧ iv = .int .i64 k ∧ Ext w wr ∧ Hid ((l.take k).all Item.ok = true)) (fun iv _ => l.length - (intOf iv).toNat)
    case atStart => exact ⟨0, Nat.zero_le _, rfl, Ext.refl _, by simp [Hid]⟩
    case round =>
      obtain ⟨k, hk, rfl, hE, hN⟩ := hrel
      by_cases hlt : k < l.length
      · obtain ⟨x, hx⟩ : ∃ x, l[k]? = some x := ⟨l[k], by simp [hlt]⟩
        obtain ⟨b, off, rfl, hb, c0, c1, c2⟩ := (hL.out.ext hE).cell hx
        have hX := Lib.hid hx
        clear hx
        have hE2 := ((Ext.refl wr).alloc (.cells #[.int .u8 x.p, .int .i64 x.t, .int .i64 x.c] 23)).alloc (.cells #[.int .u8 x.p, .int .i64 x.t, .int .i64 x.c] 23)
        have hs : Its ((wr.alloc (.cells #[.int .u8 x.p, .int .i64 x.t, .int .i64 x.c] 23)).alloc (.cells #[.int .u8 x.p, .int .i64 x.t, .int .i64 x.c] 23)) (.slice (some ⟨wr.heap.size + 1, 0, none⟩) 1 1) [x] := by
          have := (Own.lit' (B := 0) (e := 23) (k := 3) (wr.alloc (.cells #[.int .u8 x.p, .int .i64 x.t, .int .i64 x.c] 23)) #[.int .u8 x.p, .int .i64 x.t, .int .i64 x.c] 1 (Nat.zero_le _) (by simp [maxLen]) rfl).sl
          rw [World.size_alloc] at this
          exact this
        have hs' := Lib.hid hs
        have hE2' := Lib.hid hE2
        clear hs hE2
        cases hxo : x.ok
        · have h8 : Hid (chk [x] = 8) := Hid.mk (by rw [chk_one, hxo]; rfl)
          have hres := Lib.hid (heldR_item (l := l) hok'.out (all_miss hX.out hxo))
          clear hxo
          go_wp2_with fail
          refine (items_Check hs'.out).mono ?_
          rintro e w4 ⟨rfl, hE4⟩
          rw [h8.out]
          go_wp2
          go_ret2
          exact ⟨by rw [hres.out]; rfl, (hE.trans hE2'.out).trans hE4⟩
        · have h8 : Hid (chk [x] = 0) := Hid.mk (by rw [chk_one, hxo]; rfl)
          have hN2 := Lib.hid (all_take_succ hN.out hX.out hxo)
          clear hxo
          go_wp2_with fail
          refine (items_Check hs'.out).mono ?_
          rintro e w4 ⟨rfl, hE4⟩
          rw [h8.out]
          go_wp2
          go_roundw
          case rel => exact ⟨k + 1, by omega, by go_num, (hE.trans hE2'.out).trans hE4, hN2.out⟩
          case measure => simp [intOf]; omega
      · have hkl : k = l.length := by omega
        subst hkl
        have hN' := hN.out
        rw [List.take_length] at hN'
        cases hf : firstR l run with
        | none =>
          have hres := Lib.hid (heldR_none hok'.out hN' hf)
          have hf' := Lib.hid hf
          clear hN' hf
          go_wp2_with fail
          refine (guard_first (hL.out.ext hE) (hR.out.ext hE) hok'.out).mono ?_
          rintro e w4 ⟨rfl, hE4⟩
          rw [hf'.out, show idxOf none = -1 from rfl]
          go_wp2
          go_ret2
          exact ⟨by rw [hres.out]; rfl, hE.trans hE4⟩
        | some i =>
          have hres := Lib.hid (heldR_some hok'.out hN' hf)
          have hf' := Lib.hid hf
          have hi2 : decide ((i : Int) < 0) = false := decide_eq_false (by omega)
          clear hN' hf
          go_wp2_with fail
          refine (guard_first (hL.out.ext hE) (hR.out.ext hE) hok'.out).mono ?_
          rintro e w4 ⟨rfl, hE4⟩
          rw [hf'.out, show idxOf (some i) = (i : Int) from rfl]
          go_wp2
          go_ret2
          exact ⟨by rw [hres.out]; rfl, hE.trans hE4⟩


end Go.Proofs.YtkbocenpkdaogaaDoor
