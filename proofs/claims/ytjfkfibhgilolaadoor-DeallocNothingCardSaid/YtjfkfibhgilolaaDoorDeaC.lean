/- Contracts: Protects and End of layer 34, the program's and the reference's. (printed by gen/dea34.py) -/
import Derived.Test.YtjfkfibhgilolaaDoorDeaB
namespace Go.Proofs.YtjfkfibhgilolaaDoor
set_option maxRecDepth 100000
open Go.RowKit

theorem protR_bad {x : Stk} {run : List Int} (h : askErr x run = 8) : protR x run = ([], 8) := by simp [protR, h]
theorem protR_ok {x : Stk} {run : List Int} (h : askErr x run = 0) : protR x run = (keptL x.cells run, 0) := by simp [protR, h]
theorem endR34_bad {x : Stk} {run : List Int} (h : askErr x run = 8) : endR34 x run = (0, 8) := by simp [endR34, h]
theorem endR34_ok {x : Stk} {run : List Int} (h : askErr x run = 0) : endR34 x run = (if freeB x.cells run then 0 else 2, 0) := by simp [endR34, h]

set_option maxHeartbeats 1600000 in
theorem dealloc_Protects {l : List (List Item)} {run : List Int} {num : Int} {s v : Value} {w : World} (hl : Sts w s l) (hr : Nts w v run) :
    Calls Tryd.prog 50 #[.agg #[.int .i64 num, s], v] w (RetLN 23 w (protR ⟨num, l⟩ run).1 (protR ⟨num, l⟩ run).2) := by
  have hE0 := (Ext.refl w).alloc (.cells #[.int .i64 num, s] 56)
  have hl0 := hl.ext hE0
  have hr0 := hr.ext hE0
  have bM := Box.new w 56 #[.int .i64 num, s]
  obtain ⟨a, cp, rfl, hlc, hcm, -⟩ := hl.form
  obtain ⟨a2, cp2, rfl, -⟩ := hr.form
  unfold maxLen at hcm
  have hL := Lib.hid hl0
  have hV := Lib.hid hr0
  clear hl hl0 hr hr0
  rcases askErr_cases ⟨num, l⟩ run with h8 | ⟨h0, hok, hkk⟩
  · have hres := Lib.hid (protR_bad h8)
    replace h8 := Lib.hid h8
    go_enter Tryd.func50, Tryd.ntmps50
    go_wp2_with fail
    refine (dealloc_asked hL.out hV.out).mono ?_
    rintro e w1 ⟨rfl, hE1⟩
    rw [h8.out]
    go_wp2
    go_ret2
    rw [hres.out]
    exact ⟨_, rfl, Own.nil _ _ _ _, hE0.trans hE1⟩
  · have hres := Lib.hid (protR_ok h0)
    have hsm : l.length ≤ 2 ∧ ∀ s ∈ l, s.length ≤ 600 := okK_small hkk
    replace h0 := Lib.hid h0
    replace hok := Lib.hid hok
    clear hkk
    go_enter Tryd.func50, Tryd.ntmps50
    go_wp2_with fail
    refine (dealloc_asked hL.out hV.out).mono ?_
    rintro e w1 ⟨rfl, hE1⟩
    rw [h0.out]
    replace bM := bM.ext hE1
    have m0 : World.cell? w1 ⟨w.heap.size, 0, none⟩ = some (.int .i64 num) := bM.cell 0
    have m1 : World.cell? w1 ⟨w.heap.size, 1, none⟩ = some (.slice a l.length cp) := bM.cell 1
    have hW := Lib.hid (hL.out.ext hE1)
    have hR := Lib.hid (hV.out.ext hE1)
    replace hE0 := hE0.trans hE1
    clear bM
    go_wp2
    go_loopw [8, 24] (fun ov iv wr => ∃ k : Nat, k ≤ l.length ∧ iv = .int .i64 k ∧ OwnI wr w1.heap.size ov (keptL (l.take k) run) ∧ Ext w1 wr) (fun _ iv _ => l.length - (intOf iv).toNat)
    case atStart => exact ⟨0, Nat.zero_le _, rfl, OwnI.nil _ _, Ext.refl _⟩
    case round =>
      obtain ⟨k, hk, rfl, hO, hE⟩ := hrel
      have hklen := kept_len (run := run) hsm.2 k
      by_cases hlt : k < l.length
      · obtain ⟨x, hx⟩ : ∃ x, l[k]? = some x := ⟨l[k], by simp [hlt]⟩
        have hx6 : x.length ≤ 600 := hsm.2 x (List.mem_of_getElem? hx)
        obtain ⟨b, off, sv, rfl, hbb, d1, hcl⟩ := hW.out.cell hx
        have d0 := hE.cell d1
        have hX := Lib.hid hx
        obtain ⟨ca, ccp, rfl, hclc, hccm, -⟩ := hcl.form
        unfold maxLen at hccm
        have hC := Lib.hid hcl
        clear hx hbb hcl
        go_wp2
        clear d0
        go_loopw [8, 30] (fun ov jv wq => ∃ j : Nat, j ≤ x.length ∧ jv = .int .i64 j ∧ OwnI wq w1.heap.size ov (keptL (l.take k) run ++ (x.take j).filter (heldBy run)) ∧ Ext w1 wq) (fun _ jv _ => x.length - (intOf jv).toNat)
        case atStart => exact ⟨0, Nat.zero_le _, rfl, by simpa using hO, hE⟩
        case round =>
          obtain ⟨j, hj, rfl, hQ, hY⟩ := hrel
          by_cases hjl : j < x.length
          · obtain ⟨y, hy⟩ : ∃ y, x[j]? = some y := ⟨x[j], by simp [hjl]⟩
            obtain ⟨b4, off4, rfl, hbb4, c0, c1, c2⟩ := (hC.out.ext hY).cell hy
            have hYl := Lib.hid hy
            obtain ⟨yp, yt, yc⟩ := y
            have hEa := (Ext.refl wr).alloc (.cells #[.int .u8 yp, .int .i64 yt, .int .i64 yc] 23)
            have hflen : ((x.take j).filter (heldBy run)).length ≤ 600 := by
              have h1 := List.length_filter_le (heldBy run) (x.take j)
              rw [List.length_take] at h1
              omega
            clear hy hbb4
            cases hh : heldBy run ⟨yp, yt, yc⟩
            · have hh' := Lib.hid hh
              have hM2 : Hid ((x.take (j + 1)).filter (heldBy run) = (x.take j).filter (heldBy run)) := Hid.mk (filt_no hYl.out hh)
              clear hh
              go_wp2_with fail
              refine (dealloc_holds ⟨yp, yt, yc⟩ ((hR.out.ext hY).ext hEa) hok.out).mono ?_
              rintro e w4 ⟨rfl, hE4⟩
              rw [hh'.out]
              go_wp2
              go_roundw
              case rel => exact ⟨j + 1, by omega, by go_num, by rw [hM2.out]; exact (hQ.ext hEa).ext hE4, (hY.trans hEa).trans hE4⟩
              case measure => simp [intOf]; omega
            · have hh' := Lib.hid hh
              have hM2 : Hid (keptL (l.take k) run ++ (x.take (j + 1)).filter (heldBy run) = (keptL (l.take k) run ++ (x.take j).filter (heldBy run)) ++ [⟨yp, yt, yc⟩]) := Hid.mk (by rw [filt_yes hYl.out hh, List.append_assoc])
              clear hh
              obtain ⟨KL, hKL⟩ : ∃ KL, keptL (l.take k) run ++ (x.take j).filter (heldBy run) = KL := ⟨_, rfl⟩
              rw [hKL] at hQ hM2
              have hKl : KL.length ≤ 10000 := by rw [← hKL, List.length_append]; omega
              clear hKL
              obtain ⟨qa, qc, rfl, -⟩ := hQ.its.form
              have hQ' := Lib.hid hQ
              clear hQ
              go_wp2_with fail
              refine (dealloc_holds ⟨yp, yt, yc⟩ ((hR.out.ext hY).ext hEa) hok.out).mono ?_
              rintro e w4 ⟨rfl, hE4⟩
              rw [hh'.out]
              have hWx : Ext wr w4 := hEa.trans hE4
              have bI := (Box.new wr 23 #[.int .u8 yp, .int .i64 yt, .int .i64 yc]).ext hE4
              have k0 : World.cell? w4 ⟨wr.heap.size, 0, none⟩ = some (.int .u8 yp) := bI.cell 0
              have k1 : World.cell? w4 ⟨wr.heap.size, 1, none⟩ = some (.int .i64 yt) := bI.cell 1
              have k2 : World.cell? w4 ⟨wr.heap.size, 2, none⟩ = some (.int .i64 yc) := bI.cell 2
              have hE6 : Ext wr (w4.alloc (.cells #[.int .u8 yp, .int .i64 yt, .int .i64 yc] 23)) := hWx.alloc _
              have hS6 : Sl (w4.alloc (.cells #[.int .u8 yp, .int .i64 yt, .int .i64 yc] 23)) 3 (.slice (some ⟨w4.heap.size, 0, none⟩) 1 1) 1 (Item.row ⟨yp, yt, yc⟩) := (Own.lit' (B := 0) (e := 23) (k := 3) w4 #[.int .u8 yp, .int .i64 yt, .int .i64 yc] 1 (Nat.zero_le _) (by simp [maxLen]) rfl).sl
              obtain ⟨ti, tz, hti, htz, hti3, htz3, htby⟩ := Item.infoE
              replace hti := Lib.hid hti; replace htz := Lib.hid htz; replace hti3 := Lib.hid hti3; replace htz3 := Lib.hid htz3; replace htby := Lib.hid htby
              have hS6' := Lib.hid hS6
              have hE6' := Lib.hid hE6
              clear hS6 hE6
              go_wp2_with (at_builtin; refine Hid.out ?_)
              refine Hid.mk ?_
              refine wpList_append_any rfl _ _ 30 30 rfl rfl rfl Tryd.underlying30 Tryd.underlying30 hti.out htz.out hti3.out htz3.out (Own.ext hQ'.out hE6'.out) hS6'.out (by simp [Item.row, Value.oneCell']) (by simp [maxLen]; omega) (by rw [htby.out]; omega) (Nat.le_trans hY.size hE6'.out.size) ?_
              intro v' w6 hOv hKv _ _
              have hOw : OwnI w6 w1.heap.size v' (KL ++ [⟨yp, yt, yc⟩]) := by
                unfold OwnI
                rw [List.length_append, List.flatMap_append]
                simpa using hOv
              have hX6 : Ext w1 w6 := ExtBut.ext (hY.trans hE6'.out) ((ExtBut.of_keeps hKv).mono (S' := fun b => w1.heap.size ≤ b) (fun b _ hb => (hQ'.out.lt _ hb).1)) (fun b hb => hb) |> fun h => h
              clear hOv hKv
              go_wp2
              go_roundw
              case rel => exact ⟨j + 1, by omega, by go_num, by rw [hM2.out]; exact hOw, hX6⟩
              case measure => simp [intOf]; omega
          · have hje : j = x.length := by omega
            subst hje
            have hN2 : Hid (keptL (l.take (k + 1)) run = keptL (l.take k) run ++ (x.take x.length).filter (heldBy run)) := Hid.mk (by rw [kept_succ hX.out, List.take_length])
            go_wp2
            go_roundw
            case rel => exact ⟨k + 1, by omega, by go_num, by rw [hN2.out]; exact hQ, hY⟩
            case measure => simp [intOf]; omega
      · have hkl : k = l.length := by omega
        subst hkl
        rw [List.take_length] at hO
        obtain ⟨fa, fc, rfl, -⟩ := hO.its.form
        go_wp2
        go_ret2
        rw [hres.out]
        exact ⟨_, rfl, OwnI.mono hO hE0.size, hE0.trans hE⟩


set_option maxHeartbeats 1600000 in
theorem dealloc_End {l : List (List Item)} {run : List Int} {num : Int} {s v : Value} {w : World} (hl : Sts w s l) (hr : Nts w v run) :
    Calls Tryd.prog 47 #[.agg #[.int .i64 num, s], v] w fun e w' => e = .returned (.tuple #[.int .u8 (endR34 ⟨num, l⟩ run).1, .int .i64 (endR34 ⟨num, l⟩ run).2]) ∧ Ext w w' := by
  have hE0 := (Ext.refl w).alloc (.cells #[.int .i64 num, s] 56)
  have hl0 := hl.ext hE0
  have hr0 := hr.ext hE0
  have bM := Box.new w 56 #[.int .i64 num, s]
  obtain ⟨a, cp, rfl, hlc, hcm, -⟩ := hl.form
  obtain ⟨a2, cp2, rfl, -⟩ := hr.form
  unfold maxLen at hcm
  have hL := Lib.hid hl0
  have hV := Lib.hid hr0
  clear hl hl0 hr hr0
  rcases askErr_cases ⟨num, l⟩ run with h8 | ⟨h0, hok, hkk⟩
  · have hres := Lib.hid (endR34_bad h8)
    replace h8 := Lib.hid h8
    go_enter Tryd.func47, Tryd.ntmps47
    go_wp2_with fail
    refine (dealloc_asked hL.out hV.out).mono ?_
    rintro e w1 ⟨rfl, hE1⟩
    rw [h8.out]
    go_wp2
    go_ret2
    exact ⟨by rw [hres.out] <;> rfl, hE0.trans hE1⟩
  · have hres := Lib.hid (endR34_ok h0)
    have hsm : l.length ≤ 2 ∧ ∀ s ∈ l, s.length ≤ 600 := okK_small hkk
    replace h0 := Lib.hid h0
    replace hok := Lib.hid hok
    clear hkk
    cases hf : freeB l run
    all_goals
      replace hf := Lib.hid hf
      go_enter Tryd.func47, Tryd.ntmps47
      go_wp2_with fail
      refine (dealloc_asked hL.out hV.out).mono ?_
      rintro e w1 ⟨rfl, hE1⟩
      rw [h0.out]
      replace bM := bM.ext hE1
      have m0 : World.cell? w1 ⟨w.heap.size, 0, none⟩ = some (.int .i64 num) := bM.cell 0
      have m1 : World.cell? w1 ⟨w.heap.size, 1, none⟩ = some (.slice a l.length cp) := bM.cell 1
      go_wp2_with fail
      refine (dealloc_free (hL.out.ext hE1) (hV.out.ext hE1) hok.out).mono ?_
      rintro e w2 ⟨rfl, hE2⟩
      rw [hf.out]
      go_wp2
      go_ret2
      exact ⟨by rw [hres.out, hf.out] <;> rfl, (hE0.trans hE1).trans hE2⟩


end Go.Proofs.YtjfkfibhgilolaaDoor
