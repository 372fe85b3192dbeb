/- The statement AccessNames: the call returns true. No condition. (printed by gen/names29.py) -/
import Derived.Test.YtcndhbkbbmgeeaaNamU
import Derived.Test.YtcndhbkbbmgeeaaLaw29A
import Derived.Test.YtcndhbkbbmgeeaaTab
import Derived.Test.YtcndhbkbbmgeeaaRead
import Derived.Test.YtcndhbkbbmgeeaaClose
import Derived.Deep.DeepCutAuto
import Derived.Deep.RegionHeld3
namespace Go.Proofs.Ytcndhbkbbmgeeaa
set_option maxRecDepth 100000
open Go.ChangeShapes Go.WideShapes Go.ChangeAt Go.RowKit

set_option maxRecDepth 100000 in
set_option maxHeartbeats 25600000 in
theorem accessNames_walk {w : World} : Calls Try.prog 4 #[] w fun e w' => e = .returned (.bool true) ∧ Ext w w' := by
  go_enter Try.func4, Try.ntmps4
  go_wp2
  have b1 := Box.new w 25 #[.int .u8 1, .int .i64 1, .int .i64 0]
  have hsz : Hid ((World.alloc w (.cells #[.int .u8 1, .int .i64 1, .int .i64 0] 25)).heap.size = w.heap.size + 1) := Hid.mk (by simp)
  have hx0 : Ext w (World.alloc w (.cells #[.int .u8 1, .int .i64 1, .int .i64 0] 25)) := (Ext.refl _).alloc _
  obtain ⟨w0b, hw0⟩ : ∃ x, World.alloc w (.cells #[.int .u8 1, .int .i64 1, .int .i64 0] 25) = x := ⟨_, rfl⟩
  rw [hw0] at hsz b1 hx0 ⊢
  clear hw0
  have hF0 := Ext.trans (Ext.refl w) hx0
  obtain ⟨B1, hB1⟩ : ∃ n, w.heap.size = n := ⟨_, rfl⟩
  rw [hB1] at b1 ⊢
  clear hB1
  obtain ⟨i3, z3, hi, hz, hi3, hz3, hby⟩ := Item.infoE
  have hi := Lib.hid hi; have hz := Lib.hid hz; have hi3 := Lib.hid hi3; have hz3 := Lib.hid hz3; have hby := Lib.hid hby
  have hu8 : ∀ q : Int, 0 ≤ q → q ≤ 5 → IntKind.u8.wrap (q + 1) = q + 1 := fun q h1 h2 => by unfold IntKind.wrap; simp [IntKind.signed, IntKind.bits]; omega
  have hu8 := Lib.hid hu8
  go_loopw [2] (fun pv wr => ∃ q : Int, 1 ≤ q ∧ q ≤ 5 ∧ pv = .int .u8 q ∧ Ext w0b wr) (fun pv _ => 5 - (intOf pv).toNat)
  case atStart => exact ⟨1, by omega, by omega, rfl, Ext.refl _⟩
  case round =>
    obtain ⟨q, hq1, hq5, rfl, hX⟩ := hrel
    have b1 := b1.ext hX
    have b1_0 : World.cell? wr ⟨B1, 0, none⟩ = some (.int .u8 1) := b1.cell 0
    have b1_1 : World.cell? wr ⟨B1, 1, none⟩ = some (.int .i64 1) := b1.cell 1
    have b1_2 : World.cell? wr ⟨B1, 2, none⟩ = some (.int .i64 0) := b1.cell 2
    have b1_l := b1.lt
    by_cases hlt : q < 5
    · have hlt' : decide (q ≤ 4) = true := decide_eq_true (by omega)
      have h4 : Hid (four29 q) := Hid.mk (by unfold four29; omega)
      have hwq := hu8.out q (by omega) (by omega)
      go_wp2
      clear b1_0 b1_1 b1_2 b1_l hlt'
      obtain ⟨wo, hwo⟩ : ∃ z, wr = z := ⟨_, rfl⟩
      rw [hwo] at hX b1 ⊢
      clear hwo
      obtain ⟨wx, hwx⟩ : ∃ z, World.alloc wo (.cells #[.int .u8 q, .int .i64 2, .int .i64 5] 25) = z := ⟨_, rfl⟩
      have bx := Box.new wo 25 #[.int .u8 q, .int .i64 2, .int .i64 5]
      have hEx : Ext wo (World.alloc wo (.cells #[.int .u8 q, .int .i64 2, .int .i64 5] 25)) := (Ext.refl _).alloc _
      have hsx : Hid ((World.alloc wo (.cells #[.int .u8 q, .int .i64 2, .int .i64 5] 25)).heap.size = wo.heap.size + 1) := Hid.mk (by simp)
      rw [hwx] at bx hEx hsx ⊢
      clear hwx
      obtain ⟨BX, hBX⟩ : ∃ n, Array.size (World.heap wo) = n := ⟨_, rfl⟩
      rw [hBX] at bx hsx ⊢
      have hO : Own (World.alloc wx (.cells #[.int .u8 1, .int .i64 1, .int .i64 0, .int .u8 q, .int .i64 2, .int .i64 5] 25)) (BX + 1) 25 3 (.slice (some ⟨BX + 1, 0, none⟩) 2 2) 2 ((s29 q 0).flatMap Item.row) := by
        have h := Own.lit (B := BX + 1) (e := 25) (k := 3) wx #[.int .u8 1, .int .i64 1, .int .i64 0, .int .u8 q, .int .i64 2, .int .i64 5] 2 (by rw [hsx.out]; exact Nat.le_refl _) (by simp [maxLen]) rfl
        rw [hsx.out] at h
        exact h
      have hEs : Ext wx (World.alloc wx (.cells #[.int .u8 1, .int .i64 1, .int .i64 0, .int .u8 q, .int .i64 2, .int .i64 5] 25)) := (Ext.refl _).alloc _
      go_loopw [4, 5] (fun sv iv wr => ∃ k : Nat, k ≤ 4 ∧ iv = .int .u8 ((k : Int) + 1) ∧ (∃ a c, sv = .slice a (k + 2) c) ∧ Own wr (BX + 1) 25 3 sv (k + 2) ((s29 q k).flatMap Item.row) ∧ Ext wx wr) (fun _ iv _ => 5 - (intOf iv).toNat)
      case atStart => exact ⟨0, by omega, rfl, ⟨_, _, rfl⟩, hO, hEs⟩
      case round =>
        obtain ⟨k, hk, rfl, ⟨a, c, rfl⟩, hW, hXi⟩ := hrel
        by_cases hk4 : k < 4
        · have hk4' : decide (((k : Int) + 1) ≤ 4) = true := decide_eq_true (by omega)
          have hwk := hu8.out ((k : Int) + 1) (by omega) (by omega)
          have hW := Lib.hid hW
          have hXi := Lib.hid hXi
          have hE : Hid (Ext wr (wr.alloc (.cells #[.int .u8 ((k : Int) + 1), .int .i64 3, .int .i64 0] 25))) := Hid.mk ((Ext.refl wr).alloc _)
          have hx : Hid (Sl (wr.alloc (.cells #[.int .u8 ((k : Int) + 1), .int .i64 3, .int .i64 0] 25)) 3 (.slice (some ⟨wr.heap.size, 0, none⟩) 1 1) 1 (Item.row ⟨(k : Int) + 1, 3, 0⟩)) := Hid.mk ((Own.lit (B := 0) (e := 25) (k := 3) wr #[.int .u8 ((k : Int) + 1), .int .i64 3, .int .i64 0] 1 (Nat.zero_le _) (by simp [maxLen]) rfl).sl)
          have hsz2 : Hid (BX + 1 ≤ (wr.alloc (.cells #[.int .u8 ((k : Int) + 1), .int .i64 3, .int .i64 0] 25)).heap.size) := Hid.mk (by have h1 := hXi.out.size; rw [hsx.out] at h1; simp; omega)
          have hk6 : Hid (k + 2 + 1 ≤ 100) := Hid.mk (by omega)
          go_wp2_with (at_builtin; refine Hid.out ?_)
          refine Hid.mk ?_
          refine wpList_append_any rfl _ _ 23 23 rfl rfl rfl Try.underlying23 Try.underlying23 hi.out hz.out hi3.out hz3.out (hW.out.ext hE.out) hx.out (by simp [Item.row, Value.oneCell']) (Nat.le_trans hk6.out (by simp [maxLen])) (by rw [hby.out]; exact Nat.le_trans (Nat.mul_le_mul_right 24 hk6.out) (by decide)) hsz2.out ?_
          intro v' w' hO' hK' _ _
          have hN : Hid (Own w' (BX + 1) 25 3 v' (k + 2 + 1) ((s29 q (k + 1)).flatMap Item.row)) := Hid.mk (by rw [← s29_next q hk4, List.flatMap_append]; exact hO')
          obtain ⟨a', c', rfl, -⟩ := (Own.sl hO').slice_form
          have hXn : Hid (Ext wx w') := Hid.mk (Below.trans (hXi.out.trans hE.out) (Below.mono hK'.below (by rw [hsx.out]; exact Nat.le_refl _)))
          clear hO' hK'
          go_wp2
          go_roundw
          case rel => exact ⟨k + 1, by omega, by go_num, ⟨_, _, rfl⟩, hN.out, hXn.out⟩
          case measure => simp [intOf]; omega
        · have hke : k = 4 := by omega
          subst hke
          have hk4' : decide ((((4 : Nat) : Int) + 1) ≤ 4) = false := rfl
          rw [show (s29 q 4).flatMap Item.row = (s29 q 4).flatMap Item.row from rfl] at hW
          have hS : Its wr (.slice a 6 c) (s29 q 4) := by have h := hW.sl; unfold Its; rw [s29_len q (by decide)]; exact h
          obtain ⟨g, cg, hg, hg6, hgm, -, -⟩ := hW.form (by decide)
          cases hg
          have hcells : ∀ j, j < 18 → World.cell? wr ⟨g, j, none⟩ = ((s29 q 4).flatMap Item.row)[j]? := fun j hj => hW.cellAt j hj
          have c6 : World.cell? wr ⟨g, 6, none⟩ = some (.int .u8 1) := (hcells 6 (by decide)).trans rfl
          have c7 : World.cell? wr ⟨g, 7, none⟩ = some (.int .i64 3) := (hcells 7 (by decide)).trans rfl
          have c8 : World.cell? wr ⟨g, 8, none⟩ = some (.int .i64 0) := (hcells 8 (by decide)).trans rfl
          have c9 : World.cell? wr ⟨g, 9, none⟩ = some (.int .u8 2) := (hcells 9 (by decide)).trans rfl
          have c10 : World.cell? wr ⟨g, 10, none⟩ = some (.int .i64 3) := (hcells 10 (by decide)).trans rfl
          have c11 : World.cell? wr ⟨g, 11, none⟩ = some (.int .i64 0) := (hcells 11 (by decide)).trans rfl
          have c12 : World.cell? wr ⟨g, 12, none⟩ = some (.int .u8 3) := (hcells 12 (by decide)).trans rfl
          have c13 : World.cell? wr ⟨g, 13, none⟩ = some (.int .i64 3) := (hcells 13 (by decide)).trans rfl
          have c14 : World.cell? wr ⟨g, 14, none⟩ = some (.int .i64 0) := (hcells 14 (by decide)).trans rfl
          have c15 : World.cell? wr ⟨g, 15, none⟩ = some (.int .u8 4) := (hcells 15 (by decide)).trans rfl
          have c16 : World.cell? wr ⟨g, 16, none⟩ = some (.int .i64 3) := (hcells 16 (by decide)).trans rfl
          have c17 : World.cell? wr ⟨g, 17, none⟩ = some (.int .i64 0) := (hcells 17 (by decide)).trans rfl
          clear hcells hW
          obtain ⟨sv, hsv, hsv2⟩ := slice_from_Stack (some ⟨g, 0, none⟩) (s29 q 4) c 2 2 rfl (by rw [s29_len q (by decide)]; decide)
          rw [s29_len q (by decide)] at hsv hsv2
          have hS2 : Its wr (.slice sv 4 (c - 2)) t29 := hsv2 wr hS
          replace hsv : ∀ w, (Instr.slice 23 (.slice (some ⟨g, 0, none⟩) 6 c) (some (.int .i64 2)) none none).run Try.prog w = .ok (.slice sv 4 (c - 2)) w := hsv
          clear hsv2
          have hg6' : 6 ≤ c := hg6
          clear hg6
          unfold maxLen at hgm
          have la := Lib.hid (l29_a h4.out)
          obtain ⟨wi, hwi⟩ : ∃ z, wr = z := ⟨_, rfl⟩
          rw [hwi] at hXi hS hS2 c6 c7 c8 c9 c10 c11 c12 c13 c14 c15 c16 c17 ⊢
          clear hwi hk4 hk4' hk hO hEs
          have hbx : Ext wx wi := hXi
          replace bx := bx.ext hXi
          replace b1 := b1.ext (Ext.trans hEx hXi)
          have hXw : Ext w0b wi := Ext.trans hX (Ext.trans hEx hXi)
          clear hsx hX hEx hXi hbx
          rcases h4.out with rfl | rfl | rfl | rfl
          · have b1_0 : World.cell? wi ⟨B1, 0, none⟩ = some (.int .u8 1) := b1.cell 0
            have b1_1 : World.cell? wi ⟨B1, 1, none⟩ = some (.int .i64 1) := b1.cell 1
            have b1_2 : World.cell? wi ⟨B1, 2, none⟩ = some (.int .i64 0) := b1.cell 2
            have bx_0 : World.cell? wi ⟨BX, 0, none⟩ = some (.int .u8 1) := bx.cell 0
            have bx_1 : World.cell? wi ⟨BX, 1, none⟩ = some (.int .i64 2) := bx.cell 1
            have bx_2 : World.cell? wi ⟨BX, 2, none⟩ = some (.int .i64 5) := bx.cell 2
            have b1_l := b1.lt
            have bx_l := bx.lt
            go_upto_region 14 with fail
            clear b1_0 b1_1 b1_2 bx_0 bx_1 bx_2 b1_l bx_l
            have ba := Box.new wi 25 #[.int .u8 1, .int .i64 2, .int .i64 5]
            have hEa : Ext wi (World.alloc wi (.cells #[.int .u8 1, .int .i64 2, .int .i64 5] 25)) := (Ext.refl _).alloc _
            have hsq : Hid ((World.alloc wi (.cells #[.int .u8 1, .int .i64 2, .int .i64 5] 25)).heap.size = wi.heap.size + 1) := Hid.mk (by simp)
            obtain ⟨wa, hwa⟩ : ∃ z, (World.alloc wi (.cells #[.int .u8 1, .int .i64 2, .int .i64 5] 25)) = z := ⟨_, rfl⟩
            rw [hwa] at ba hEa hsq ⊢
            clear hwa
            obtain ⟨BA, hBA⟩ : ∃ n, Array.size (World.heap wi) = n := ⟨_, rfl⟩
            rw [hBA] at ba hsq ⊢
            clear hBA
            have b1 := b1.ext hEa; have bx := bx.ext hEa; have hS := hS.ext hEa; have hS2 := hS2.ext hEa; have hXw := Ext.trans hXw hEa
            replace c6 := Ext.cell hEa c6
            replace c7 := Ext.cell hEa c7
            replace c8 := Ext.cell hEa c8
            replace c9 := Ext.cell hEa c9
            replace c10 := Ext.cell hEa c10
            replace c11 := Ext.cell hEa c11
            replace c12 := Ext.cell hEa c12
            replace c13 := Ext.cell hEa c13
            replace c14 := Ext.cell hEa c14
            replace c15 := Ext.cell hEa c15
            replace c16 := Ext.cell hEa c16
            replace c17 := Ext.cell hEa c17
            have b1_0 : World.cell? wa ⟨B1, 0, none⟩ = some (.int .u8 1) := b1.cell 0
            have b1_1 : World.cell? wa ⟨B1, 1, none⟩ = some (.int .i64 1) := b1.cell 1
            have b1_2 : World.cell? wa ⟨B1, 2, none⟩ = some (.int .i64 0) := b1.cell 2
            have bx_0 : World.cell? wa ⟨BX, 0, none⟩ = some (.int .u8 1) := bx.cell 0
            have bx_1 : World.cell? wa ⟨BX, 1, none⟩ = some (.int .i64 2) := bx.cell 1
            have bx_2 : World.cell? wa ⟨BX, 2, none⟩ = some (.int .i64 5) := bx.cell 2
            have ba_0 : World.cell? wa ⟨BA, 0, none⟩ = some (.int .u8 1) := ba.cell 0
            have ba_1 : World.cell? wa ⟨BA, 1, none⟩ = some (.int .i64 2) := ba.cell 1
            have ba_2 : World.cell? wa ⟨BA, 2, none⟩ = some (.int .i64 5) := ba.cell 2
            refine wp_region_inv (L := [Pr.eq (.slice (some ⟨g, 0, none⟩) 6 c), Pr.eq (.agg #[.int .u8 1, .int .i64 1, .int .i64 0]), Pr.eq (.agg #[.int .u8 1, .int .i64 2, .int .i64 5]), Pr.eq (.slice (some ⟨g, 0, none⟩) 6 c), Pr.eq (.pointer (some ⟨g, 9, none⟩)), Pr.eq (.agg #[.int .u8 2, .int .i64 3, .int .i64 0]), Pr.eq (.slice (some ⟨g, 0, none⟩) 6 c), Pr.eq (.pointer (some ⟨g, 12, none⟩)), Pr.eq (.agg #[.int .u8 3, .int .i64 3, .int .i64 0]), Pr.eq (.slice (some ⟨g, 0, none⟩) 6 c), Pr.eq (.pointer (some ⟨g, 15, none⟩)), Pr.eq (.agg #[.int .u8 4, .int .i64 3, .int .i64 0]), PrI [one29, x29 1, ⟨2, 3, 0⟩, ⟨3, 3, 0⟩, ⟨4, 3, 0⟩], Pr.eq (.slice (some ⟨g, 0, none⟩) 6 c), Pr.eq (.pointer (some ⟨g, 6, none⟩)), Pr.eq (.agg #[.int .u8 1, .int .i64 3, .int .i64 0]), PrI [⟨1, 3, 0⟩], Pr.eq (.bool true), Pr.eq (.bool false)]) (by kernel_rfl) (by kernel_rfl) ?_ ?_
            · refine ⟨?_, ?_, ?_, ?_, ?_, ?_, ?_, ?_, ?_, ?_, ?_, ?_, ?_, ?_, ?_, ?_, ?_, ?_, ?_, trivial⟩
              · intro a w hE hd ho K hK
                have hF : Ext wa w := Ext.trans ((Ext.refl _).drew) hE
                have e4 : a.eval (.tmp 4) = .slice (some ⟨g, 0, none⟩) 6 c := ho 4 (by kernel_rfl)
                rw [eval_tmp] at e4
                clear b1_0 b1_1 b1_2 bx_0 bx_1 bx_2 c6 c7 c8 c9 c10 c11 c12 c13 c14 c15 c16 c17 ba_0 ba_1 ba_2
                clear hd ho
                replace hK := Lib.hid hK
                go_simp
                exact hK.out _ _ rfl (Ext.refl _)
              · intro a w hE hd ho K hK
                have hF : Ext wa w := Ext.trans ((Ext.refl _).drew) hE
                have e1 : a.eval (.tmp 1) = .pointer (some ⟨B1, 0, none⟩) := ho 1 (by kernel_rfl)
                rw [eval_tmp] at e1
                have b1_0w := Ext.cell hF b1_0
                have b1_1w := Ext.cell hF b1_1
                have b1_2w := Ext.cell hF b1_2
                clear b1_0 b1_1 b1_2 bx_0 bx_1 bx_2 c6 c7 c8 c9 c10 c11 c12 c13 c14 c15 c16 c17 ba_0 ba_1 ba_2
                clear hd ho
                replace hK := Lib.hid hK
                go_simp
                exact hK.out _ _ rfl (Ext.refl _)
              · intro a w hE hd ho K hK
                have hF : Ext wa w := Ext.trans ((Ext.refl _).drew) hE
                have e3 : a.eval (.tmp 3) = .pointer (some ⟨BX, 0, none⟩) := ho 3 (by kernel_rfl)
                rw [eval_tmp] at e3
                have bx_0w := Ext.cell hF bx_0
                have bx_1w := Ext.cell hF bx_1
                have bx_2w := Ext.cell hF bx_2
                clear b1_0 b1_1 b1_2 bx_0 bx_1 bx_2 c6 c7 c8 c9 c10 c11 c12 c13 c14 c15 c16 c17 ba_0 ba_1 ba_2
                clear hd ho
                replace hK := Lib.hid hK
                go_simp
                exact hK.out _ _ rfl (Ext.refl _)
              · intro a w hE hd ho K hK
                have hF : Ext wa w := Ext.trans ((Ext.refl _).drew) hE
                have e4 : a.eval (.tmp 4) = .slice (some ⟨g, 0, none⟩) 6 c := ho 4 (by kernel_rfl)
                rw [eval_tmp] at e4
                clear b1_0 b1_1 b1_2 bx_0 bx_1 bx_2 c6 c7 c8 c9 c10 c11 c12 c13 c14 c15 c16 c17 ba_0 ba_1 ba_2
                clear hd ho
                replace hK := Lib.hid hK
                go_simp
                exact hK.out _ _ rfl (Ext.refl _)
              · intro a w hE hd ho K hK
                have hF : Ext wa w := Ext.trans ((Ext.refl _).drew) hE
                have e49 : a.eval (.tmp 49) = .slice (some ⟨g, 0, none⟩) 6 c := hd 3 (by kernel_rfl)
                rw [eval_tmp] at e49
                clear b1_0 b1_1 b1_2 bx_0 bx_1 bx_2 c6 c7 c8 c9 c10 c11 c12 c13 c14 c15 c16 c17 ba_0 ba_1 ba_2
                clear hd ho
                replace hK := Lib.hid hK
                go_simp
                exact hK.out _ _ rfl (Ext.refl _)
              · intro a w hE hd ho K hK
                have hF : Ext wa w := Ext.trans ((Ext.refl _).drew) hE
                have e50 : a.eval (.tmp 50) = .pointer (some ⟨g, 9, none⟩) := hd 4 (by kernel_rfl)
                rw [eval_tmp] at e50
                have c9w := Ext.cell hF c9
                have c10w := Ext.cell hF c10
                have c11w := Ext.cell hF c11
                clear b1_0 b1_1 b1_2 bx_0 bx_1 bx_2 c6 c7 c8 c9 c10 c11 c12 c13 c14 c15 c16 c17 ba_0 ba_1 ba_2
                clear hd ho
                replace hK := Lib.hid hK
                go_simp
                exact hK.out _ _ rfl (Ext.refl _)
              · intro a w hE hd ho K hK
                have hF : Ext wa w := Ext.trans ((Ext.refl _).drew) hE
                have e4 : a.eval (.tmp 4) = .slice (some ⟨g, 0, none⟩) 6 c := ho 4 (by kernel_rfl)
                rw [eval_tmp] at e4
                clear b1_0 b1_1 b1_2 bx_0 bx_1 bx_2 c6 c7 c8 c9 c10 c11 c12 c13 c14 c15 c16 c17 ba_0 ba_1 ba_2
                clear hd ho
                replace hK := Lib.hid hK
                go_simp
                exact hK.out _ _ rfl (Ext.refl _)
              · intro a w hE hd ho K hK
                have hF : Ext wa w := Ext.trans ((Ext.refl _).drew) hE
                have e52 : a.eval (.tmp 52) = .slice (some ⟨g, 0, none⟩) 6 c := hd 6 (by kernel_rfl)
                rw [eval_tmp] at e52
                clear b1_0 b1_1 b1_2 bx_0 bx_1 bx_2 c6 c7 c8 c9 c10 c11 c12 c13 c14 c15 c16 c17 ba_0 ba_1 ba_2
                clear hd ho
                replace hK := Lib.hid hK
                go_simp
                exact hK.out _ _ rfl (Ext.refl _)
              · intro a w hE hd ho K hK
                have hF : Ext wa w := Ext.trans ((Ext.refl _).drew) hE
                have e53 : a.eval (.tmp 53) = .pointer (some ⟨g, 12, none⟩) := hd 7 (by kernel_rfl)
                rw [eval_tmp] at e53
                have c12w := Ext.cell hF c12
                have c13w := Ext.cell hF c13
                have c14w := Ext.cell hF c14
                clear b1_0 b1_1 b1_2 bx_0 bx_1 bx_2 c6 c7 c8 c9 c10 c11 c12 c13 c14 c15 c16 c17 ba_0 ba_1 ba_2
                clear hd ho
                replace hK := Lib.hid hK
                go_simp
                exact hK.out _ _ rfl (Ext.refl _)
              · intro a w hE hd ho K hK
                have hF : Ext wa w := Ext.trans ((Ext.refl _).drew) hE
                have e4 : a.eval (.tmp 4) = .slice (some ⟨g, 0, none⟩) 6 c := ho 4 (by kernel_rfl)
                rw [eval_tmp] at e4
                clear b1_0 b1_1 b1_2 bx_0 bx_1 bx_2 c6 c7 c8 c9 c10 c11 c12 c13 c14 c15 c16 c17 ba_0 ba_1 ba_2
                clear hd ho
                replace hK := Lib.hid hK
                go_simp
                exact hK.out _ _ rfl (Ext.refl _)
              · intro a w hE hd ho K hK
                have hF : Ext wa w := Ext.trans ((Ext.refl _).drew) hE
                have e55 : a.eval (.tmp 55) = .slice (some ⟨g, 0, none⟩) 6 c := hd 9 (by kernel_rfl)
                rw [eval_tmp] at e55
                clear b1_0 b1_1 b1_2 bx_0 bx_1 bx_2 c6 c7 c8 c9 c10 c11 c12 c13 c14 c15 c16 c17 ba_0 ba_1 ba_2
                clear hd ho
                replace hK := Lib.hid hK
                go_simp
                exact hK.out _ _ rfl (Ext.refl _)
              · intro a w hE hd ho K hK
                have hF : Ext wa w := Ext.trans ((Ext.refl _).drew) hE
                have e56 : a.eval (.tmp 56) = .pointer (some ⟨g, 15, none⟩) := hd 10 (by kernel_rfl)
                rw [eval_tmp] at e56
                have c15w := Ext.cell hF c15
                have c16w := Ext.cell hF c16
                have c17w := Ext.cell hF c17
                clear b1_0 b1_1 b1_2 bx_0 bx_1 bx_2 c6 c7 c8 c9 c10 c11 c12 c13 c14 c15 c16 c17 ba_0 ba_1 ba_2
                clear hd ho
                replace hK := Lib.hid hK
                go_simp
                exact hK.out _ _ rfl (Ext.refl _)
              · intro a w hE hd ho K hK
                have hF : Ext wa w := Ext.trans ((Ext.refl _).drew) hE
                have e47 : a.eval (.tmp 47) = .agg #[.int .u8 1, .int .i64 1, .int .i64 0] := hd 1 (by kernel_rfl)
                rw [eval_tmp] at e47
                have e48 : a.eval (.tmp 48) = .agg #[.int .u8 1, .int .i64 2, .int .i64 5] := hd 2 (by kernel_rfl)
                rw [eval_tmp] at e48
                have e51 : a.eval (.tmp 51) = .agg #[.int .u8 2, .int .i64 3, .int .i64 0] := hd 5 (by kernel_rfl)
                rw [eval_tmp] at e51
                have e54 : a.eval (.tmp 54) = .agg #[.int .u8 3, .int .i64 3, .int .i64 0] := hd 8 (by kernel_rfl)
                rw [eval_tmp] at e54
                have e57 : a.eval (.tmp 57) = .agg #[.int .u8 4, .int .i64 3, .int .i64 0] := hd 11 (by kernel_rfl)
                rw [eval_tmp] at e57
                clear b1_0 b1_1 b1_2 bx_0 bx_1 bx_2 c6 c7 c8 c9 c10 c11 c12 c13 c14 c15 c16 c17 ba_0 ba_1 ba_2
                clear hd ho
                replace hK := Lib.hid hK
                go_simp
                exact hK.out _ _ (Its.lit w _ [one29, x29 1, ⟨2, 3, 0⟩, ⟨3, 3, 0⟩, ⟨4, 3, 0⟩] _ _ rfl rfl (by simp [maxLen]) rfl) ((Ext.refl _).alloc _)
              · intro a w hE hd ho K hK
                have hF : Ext wa w := Ext.trans ((Ext.refl _).drew) hE
                have e4 : a.eval (.tmp 4) = .slice (some ⟨g, 0, none⟩) 6 c := ho 4 (by kernel_rfl)
                rw [eval_tmp] at e4
                clear b1_0 b1_1 b1_2 bx_0 bx_1 bx_2 c6 c7 c8 c9 c10 c11 c12 c13 c14 c15 c16 c17 ba_0 ba_1 ba_2
                clear hd ho
                replace hK := Lib.hid hK
                go_simp
                exact hK.out _ _ rfl (Ext.refl _)
              · intro a w hE hd ho K hK
                have hF : Ext wa w := Ext.trans ((Ext.refl _).drew) hE
                have e59 : a.eval (.tmp 59) = .slice (some ⟨g, 0, none⟩) 6 c := hd 13 (by kernel_rfl)
                rw [eval_tmp] at e59
                clear b1_0 b1_1 b1_2 bx_0 bx_1 bx_2 c6 c7 c8 c9 c10 c11 c12 c13 c14 c15 c16 c17 ba_0 ba_1 ba_2
                clear hd ho
                replace hK := Lib.hid hK
                go_simp
                exact hK.out _ _ rfl (Ext.refl _)
              · intro a w hE hd ho K hK
                have hF : Ext wa w := Ext.trans ((Ext.refl _).drew) hE
                have e60 : a.eval (.tmp 60) = .pointer (some ⟨g, 6, none⟩) := hd 14 (by kernel_rfl)
                rw [eval_tmp] at e60
                have c6w := Ext.cell hF c6
                have c7w := Ext.cell hF c7
                have c8w := Ext.cell hF c8
                clear b1_0 b1_1 b1_2 bx_0 bx_1 bx_2 c6 c7 c8 c9 c10 c11 c12 c13 c14 c15 c16 c17 ba_0 ba_1 ba_2
                clear hd ho
                replace hK := Lib.hid hK
                go_simp
                exact hK.out _ _ rfl (Ext.refl _)
              · intro a w hE hd ho K hK
                have hF : Ext wa w := Ext.trans ((Ext.refl _).drew) hE
                have e61 : a.eval (.tmp 61) = .agg #[.int .u8 1, .int .i64 3, .int .i64 0] := hd 15 (by kernel_rfl)
                rw [eval_tmp] at e61
                clear b1_0 b1_1 b1_2 bx_0 bx_1 bx_2 c6 c7 c8 c9 c10 c11 c12 c13 c14 c15 c16 c17 ba_0 ba_1 ba_2
                clear hd ho
                replace hK := Lib.hid hK
                go_simp
                exact hK.out _ _ (Its.lit w _ [⟨1, 3, 0⟩] _ _ rfl rfl (by simp [maxLen]) rfl) ((Ext.refl _).alloc _)
              · intro a w hE hd ho K hK
                have hF : Ext wa w := Ext.trans ((Ext.refl _).drew) hE
                have e46 : a.eval (.tmp 46) = .slice (some ⟨g, 0, none⟩) 6 c := hd 0 (by kernel_rfl)
                rw [eval_tmp] at e46
                have h58 : Its w (a.eval (.tmp 58)) [one29, x29 1, ⟨2, 3, 0⟩, ⟨3, 3, 0⟩, ⟨4, 3, 0⟩] := hd 12 (by kernel_rfl)
                obtain ⟨xa58, xc58, e58, xl58, -⟩ := h58.form
                rw [e58] at h58
                rw [eval_tmp] at e58
                have h62 : Its w (a.eval (.tmp 62)) [⟨1, 3, 0⟩] := hd 16 (by kernel_rfl)
                obtain ⟨xa62, xc62, e62, xl62, -⟩ := h62.form
                rw [e62] at h62
                rw [eval_tmp] at e62
                clear b1_0 b1_1 b1_2 bx_0 bx_1 bx_2 c6 c7 c8 c9 c10 c11 c12 c13 c14 c15 c16 c17 ba_0 ba_1 ba_2
                clear hd ho
                replace hK := Lib.hid hK
                go_simp
                refine (law29_leaves 2 false (l := s29 1 4) (hS.ext hF) h58 h62 la.out).mono ?_
                rintro e wz ⟨rfl, hZ⟩
                go_simp
                exact hK.out _ _ rfl hZ
              · intro a w hE hd ho K hK
                have hF : Ext wa w := Ext.trans ((Ext.refl _).drew) hE
                have e63 : a.eval (.tmp 63) = .bool true := hd 17 (by kernel_rfl)
                rw [eval_tmp] at e63
                clear b1_0 b1_1 b1_2 bx_0 bx_1 bx_2 c6 c7 c8 c9 c10 c11 c12 c13 c14 c15 c16 c17 ba_0 ba_1 ba_2
                clear hd ho
                replace hK := Lib.hid hK
                go_simp
                exact hK.out _ _ rfl (Ext.refl _)
            · intro vals wl hE hv
              have hF : Ext wa wl := Ext.trans ((Ext.refl _).drew) hE
              have e64 : vals 18 = .bool false := hv 18 (by decide)
              clear hv hE
              have hS := hS.ext hF; have hS2 := hS2.ext hF; have hXw := Ext.trans hXw hF
              replace b1_0 := Ext.cell hF b1_0
              replace b1_1 := Ext.cell hF b1_1
              replace b1_2 := Ext.cell hF b1_2
              replace ba_0 := Ext.cell hF ba_0
              replace ba_1 := Ext.cell hF ba_1
              replace ba_2 := Ext.cell hF ba_2
              clear bx_0 bx_1 bx_2 c6 c7 c8 c9 c10 c11 c12 c13 c14 c15 c16 c17
              simp only [putAll]
              rw [e64]
              clear e64 hF
              go_simp
              go_wp2
              refine wp_region_inv (L := [Pr.eq (.slice (some ⟨g, 0, none⟩) 6 c), Pr.eq (.agg #[.int .u8 1, .int .i64 1, .int .i64 0]), Pr.eq (.agg #[.int .u8 1, .int .i64 2, .int .i64 5]), PrI [one29, ⟨1, 2, 5⟩], Pr.eq (.slice (some ⟨g, 0, none⟩) 6 c), Pr.eq (.slice sv 4 (c - 2)), Pr.eq (.bool true), Pr.eq (.bool false)]) (by kernel_rfl) (by kernel_rfl) ?_ ?_
              · refine ⟨?_, ?_, ?_, ?_, ?_, ?_, ?_, ?_, trivial⟩
                · intro a w hE hd ho K hK
                  have hF : Ext wl w := Ext.trans ((Ext.refl _).drew) hE
                  have e4 : a.eval (.tmp 4) = .slice (some ⟨g, 0, none⟩) 6 c := ho 4 (by kernel_rfl)
                  rw [eval_tmp] at e4
                  clear b1_0 b1_1 b1_2 ba_0 ba_1 ba_2
                  clear hd ho
                  replace hK := Lib.hid hK
                  go_simp
                  exact hK.out _ _ rfl (Ext.refl _)
                · intro a w hE hd ho K hK
                  have hF : Ext wl w := Ext.trans ((Ext.refl _).drew) hE
                  have e1 : a.eval (.tmp 1) = .pointer (some ⟨B1, 0, none⟩) := ho 1 (by kernel_rfl)
                  rw [eval_tmp] at e1
                  have b1_0w := Ext.cell hF b1_0
                  have b1_1w := Ext.cell hF b1_1
                  have b1_2w := Ext.cell hF b1_2
                  clear b1_0 b1_1 b1_2 ba_0 ba_1 ba_2
                  clear hd ho
                  replace hK := Lib.hid hK
                  go_simp
                  exact hK.out _ _ rfl (Ext.refl _)
                · intro a w hE hd ho K hK
                  have hF : Ext wl w := Ext.trans ((Ext.refl _).drew) hE
                  have e6 : a.eval (.tmp 6) = .pointer (some ⟨BA, 0, none⟩) := ho 6 (by kernel_rfl)
                  rw [eval_tmp] at e6
                  have ba_0w := Ext.cell hF ba_0
                  have ba_1w := Ext.cell hF ba_1
                  have ba_2w := Ext.cell hF ba_2
                  clear b1_0 b1_1 b1_2 ba_0 ba_1 ba_2
                  clear hd ho
                  replace hK := Lib.hid hK
                  go_simp
                  exact hK.out _ _ rfl (Ext.refl _)
                · intro a w hE hd ho K hK
                  have hF : Ext wl w := Ext.trans ((Ext.refl _).drew) hE
                  have e71 : a.eval (.tmp 71) = .agg #[.int .u8 1, .int .i64 1, .int .i64 0] := hd 1 (by kernel_rfl)
                  rw [eval_tmp] at e71
                  have e72 : a.eval (.tmp 72) = .agg #[.int .u8 1, .int .i64 2, .int .i64 5] := hd 2 (by kernel_rfl)
                  rw [eval_tmp] at e72
                  clear b1_0 b1_1 b1_2 ba_0 ba_1 ba_2
                  clear hd ho
                  replace hK := Lib.hid hK
                  go_simp
                  exact hK.out _ _ (Its.lit w _ [one29, ⟨1, 2, 5⟩] _ _ rfl rfl (by simp [maxLen]) rfl) ((Ext.refl _).alloc _)
                · intro a w hE hd ho K hK
                  have hF : Ext wl w := Ext.trans ((Ext.refl _).drew) hE
                  have e4 : a.eval (.tmp 4) = .slice (some ⟨g, 0, none⟩) 6 c := ho 4 (by kernel_rfl)
                  rw [eval_tmp] at e4
                  clear b1_0 b1_1 b1_2 ba_0 ba_1 ba_2
                  clear hd ho
                  replace hK := Lib.hid hK
                  go_simp
                  exact hK.out _ _ rfl (Ext.refl _)
                · intro a w hE hd ho K hK
                  have hF : Ext wl w := Ext.trans ((Ext.refl _).drew) hE
                  have e74 : a.eval (.tmp 74) = .slice (some ⟨g, 0, none⟩) 6 c := hd 4 (by kernel_rfl)
                  rw [eval_tmp] at e74
                  clear b1_0 b1_1 b1_2 ba_0 ba_1 ba_2
                  clear hd ho
                  replace hK := Lib.hid hK
                  go_simp
                  exact hK.out _ _ rfl (Ext.refl _)
                · intro a w hE hd ho K hK
                  have hF : Ext wl w := Ext.trans ((Ext.refl _).drew) hE
                  have e70 : a.eval (.tmp 70) = .slice (some ⟨g, 0, none⟩) 6 c := hd 0 (by kernel_rfl)
                  rw [eval_tmp] at e70
                  have h73 : Its w (a.eval (.tmp 73)) [one29, ⟨1, 2, 5⟩] := hd 3 (by kernel_rfl)
                  obtain ⟨xa73, xc73, e73, xl73, -⟩ := h73.form
                  rw [e73] at h73
                  rw [eval_tmp] at e73
                  have e75 : a.eval (.tmp 75) = .slice sv 4 (c - 2) := hd 5 (by kernel_rfl)
                  rw [eval_tmp] at e75
                  clear b1_0 b1_1 b1_2 ba_0 ba_1 ba_2
                  clear hd ho
                  replace hK := Lib.hid hK
                  go_simp
                  refine (law29_leaves 2 true (l := s29 1 4) (hS.ext hF) h73 (hS2.ext hF) (l29_d (q := 1) (by decide))).mono ?_
                  rintro e wz ⟨rfl, hZ⟩
                  go_simp
                  exact hK.out _ _ rfl hZ
                · intro a w hE hd ho K hK
                  have hF : Ext wl w := Ext.trans ((Ext.refl _).drew) hE
                  have e76 : a.eval (.tmp 76) = .bool true := hd 6 (by kernel_rfl)
                  rw [eval_tmp] at e76
                  clear b1_0 b1_1 b1_2 ba_0 ba_1 ba_2
                  clear hd ho
                  replace hK := Lib.hid hK
                  go_simp
                  exact hK.out _ _ rfl (Ext.refl _)
              · intro vals wm hE hv
                have hF : Ext wl wm := Ext.trans ((Ext.refl _).drew) hE
                have e77 : vals 7 = .bool false := hv 7 (by decide)
                clear hv hE
                have hXw := Ext.trans hXw hF
                clear b1_0 b1_1 b1_2 ba_0 ba_1 ba_2
                simp only [putAll]
                rw [e77]
                clear e77
                go_simp
                go_wp2
                go_roundw
                case rel => exact ⟨2, by omega, by omega, rfl, hXw⟩
                case measure => simp [intOf]
          · have b1_0 : World.cell? wi ⟨B1, 0, none⟩ = some (.int .u8 1) := b1.cell 0
            have b1_1 : World.cell? wi ⟨B1, 1, none⟩ = some (.int .i64 1) := b1.cell 1
            have b1_2 : World.cell? wi ⟨B1, 2, none⟩ = some (.int .i64 0) := b1.cell 2
            have bx_0 : World.cell? wi ⟨BX, 0, none⟩ = some (.int .u8 2) := bx.cell 0
            have bx_1 : World.cell? wi ⟨BX, 1, none⟩ = some (.int .i64 2) := bx.cell 1
            have bx_2 : World.cell? wi ⟨BX, 2, none⟩ = some (.int .i64 5) := bx.cell 2
            have b1_l := b1.lt
            have bx_l := bx.lt
            go_upto_region 14 with fail
            clear b1_0 b1_1 b1_2 bx_0 bx_1 bx_2 b1_l bx_l
            have ba := Box.new wi 25 #[.int .u8 1, .int .i64 2, .int .i64 5]
            have hEa : Ext wi (World.alloc wi (.cells #[.int .u8 1, .int .i64 2, .int .i64 5] 25)) := (Ext.refl _).alloc _
            have hsq : Hid ((World.alloc wi (.cells #[.int .u8 1, .int .i64 2, .int .i64 5] 25)).heap.size = wi.heap.size + 1) := Hid.mk (by simp)
            obtain ⟨wa, hwa⟩ : ∃ z, (World.alloc wi (.cells #[.int .u8 1, .int .i64 2, .int .i64 5] 25)) = z := ⟨_, rfl⟩
            rw [hwa] at ba hEa hsq ⊢
            clear hwa
            obtain ⟨BA, hBA⟩ : ∃ n, Array.size (World.heap wi) = n := ⟨_, rfl⟩
            rw [hBA] at ba hsq ⊢
            clear hBA
            have b1 := b1.ext hEa; have bx := bx.ext hEa; have hS := hS.ext hEa; have hS2 := hS2.ext hEa; have hXw := Ext.trans hXw hEa
            replace c6 := Ext.cell hEa c6
            replace c7 := Ext.cell hEa c7
            replace c8 := Ext.cell hEa c8
            replace c9 := Ext.cell hEa c9
            replace c10 := Ext.cell hEa c10
            replace c11 := Ext.cell hEa c11
            replace c12 := Ext.cell hEa c12
            replace c13 := Ext.cell hEa c13
            replace c14 := Ext.cell hEa c14
            replace c15 := Ext.cell hEa c15
            replace c16 := Ext.cell hEa c16
            replace c17 := Ext.cell hEa c17
            have b1_0 : World.cell? wa ⟨B1, 0, none⟩ = some (.int .u8 1) := b1.cell 0
            have b1_1 : World.cell? wa ⟨B1, 1, none⟩ = some (.int .i64 1) := b1.cell 1
            have b1_2 : World.cell? wa ⟨B1, 2, none⟩ = some (.int .i64 0) := b1.cell 2
            have bx_0 : World.cell? wa ⟨BX, 0, none⟩ = some (.int .u8 2) := bx.cell 0
            have bx_1 : World.cell? wa ⟨BX, 1, none⟩ = some (.int .i64 2) := bx.cell 1
            have bx_2 : World.cell? wa ⟨BX, 2, none⟩ = some (.int .i64 5) := bx.cell 2
            have ba_0 : World.cell? wa ⟨BA, 0, none⟩ = some (.int .u8 1) := ba.cell 0
            have ba_1 : World.cell? wa ⟨BA, 1, none⟩ = some (.int .i64 2) := ba.cell 1
            have ba_2 : World.cell? wa ⟨BA, 2, none⟩ = some (.int .i64 5) := ba.cell 2
            refine wp_region_inv (L := [Pr.eq (.slice (some ⟨g, 0, none⟩) 6 c), Pr.eq (.agg #[.int .u8 1, .int .i64 1, .int .i64 0]), Pr.eq (.agg #[.int .u8 2, .int .i64 2, .int .i64 5]), Pr.eq (.slice (some ⟨g, 0, none⟩) 6 c), Pr.eq (.pointer (some ⟨g, 9, none⟩)), Pr.eq (.agg #[.int .u8 2, .int .i64 3, .int .i64 0]), Pr.eq (.slice (some ⟨g, 0, none⟩) 6 c), Pr.eq (.pointer (some ⟨g, 12, none⟩)), Pr.eq (.agg #[.int .u8 3, .int .i64 3, .int .i64 0]), Pr.eq (.slice (some ⟨g, 0, none⟩) 6 c), Pr.eq (.pointer (some ⟨g, 15, none⟩)), Pr.eq (.agg #[.int .u8 4, .int .i64 3, .int .i64 0]), PrI [one29, x29 2, ⟨2, 3, 0⟩, ⟨3, 3, 0⟩, ⟨4, 3, 0⟩], Pr.eq (.slice (some ⟨g, 0, none⟩) 6 c), Pr.eq (.pointer (some ⟨g, 6, none⟩)), Pr.eq (.agg #[.int .u8 1, .int .i64 3, .int .i64 0]), PrI [⟨1, 3, 0⟩], Pr.eq (.bool true), Pr.eq (.bool false)]) (by kernel_rfl) (by kernel_rfl) ?_ ?_
            · refine ⟨?_, ?_, ?_, ?_, ?_, ?_, ?_, ?_, ?_, ?_, ?_, ?_, ?_, ?_, ?_, ?_, ?_, ?_, ?_, trivial⟩
              · intro a w hE hd ho K hK
                have hF : Ext wa w := Ext.trans ((Ext.refl _).drew) hE
                have e4 : a.eval (.tmp 4) = .slice (some ⟨g, 0, none⟩) 6 c := ho 4 (by kernel_rfl)
                rw [eval_tmp] at e4
                clear b1_0 b1_1 b1_2 bx_0 bx_1 bx_2 c6 c7 c8 c9 c10 c11 c12 c13 c14 c15 c16 c17 ba_0 ba_1 ba_2
                clear hd ho
                replace hK := Lib.hid hK
                go_simp
                exact hK.out _ _ rfl (Ext.refl _)
              · intro a w hE hd ho K hK
                have hF : Ext wa w := Ext.trans ((Ext.refl _).drew) hE
                have e1 : a.eval (.tmp 1) = .pointer (some ⟨B1, 0, none⟩) := ho 1 (by kernel_rfl)
                rw [eval_tmp] at e1
                have b1_0w := Ext.cell hF b1_0
                have b1_1w := Ext.cell hF b1_1
                have b1_2w := Ext.cell hF b1_2
                clear b1_0 b1_1 b1_2 bx_0 bx_1 bx_2 c6 c7 c8 c9 c10 c11 c12 c13 c14 c15 c16 c17 ba_0 ba_1 ba_2
                clear hd ho
                replace hK := Lib.hid hK
                go_simp
                exact hK.out _ _ rfl (Ext.refl _)
              · intro a w hE hd ho K hK
                have hF : Ext wa w := Ext.trans ((Ext.refl _).drew) hE
                have e3 : a.eval (.tmp 3) = .pointer (some ⟨BX, 0, none⟩) := ho 3 (by kernel_rfl)
                rw [eval_tmp] at e3
                have bx_0w := Ext.cell hF bx_0
                have bx_1w := Ext.cell hF bx_1
                have bx_2w := Ext.cell hF bx_2
                clear b1_0 b1_1 b1_2 bx_0 bx_1 bx_2 c6 c7 c8 c9 c10 c11 c12 c13 c14 c15 c16 c17 ba_0 ba_1 ba_2
                clear hd ho
                replace hK := Lib.hid hK
                go_simp
                exact hK.out _ _ rfl (Ext.refl _)
              · intro a w hE hd ho K hK
                have hF : Ext wa w := Ext.trans ((Ext.refl _).drew) hE
                have e4 : a.eval (.tmp 4) = .slice (some ⟨g, 0, none⟩) 6 c := ho 4 (by kernel_rfl)
                rw [eval_tmp] at e4
                clear b1_0 b1_1 b1_2 bx_0 bx_1 bx_2 c6 c7 c8 c9 c10 c11 c12 c13 c14 c15 c16 c17 ba_0 ba_1 ba_2
                clear hd ho
                replace hK := Lib.hid hK
                go_simp
                exact hK.out _ _ rfl (Ext.refl _)
              · intro a w hE hd ho K hK
                have hF : Ext wa w := Ext.trans ((Ext.refl _).drew) hE
                have e49 : a.eval (.tmp 49) = .slice (some ⟨g, 0, none⟩) 6 c := hd 3 (by kernel_rfl)
                rw [eval_tmp] at e49
                clear b1_0 b1_1 b1_2 bx_0 bx_1 bx_2 c6 c7 c8 c9 c10 c11 c12 c13 c14 c15 c16 c17 ba_0 ba_1 ba_2
                clear hd ho
                replace hK := Lib.hid hK
                go_simp
                exact hK.out _ _ rfl (Ext.refl _)
              · intro a w hE hd ho K hK
                have hF : Ext wa w := Ext.trans ((Ext.refl _).drew) hE
                have e50 : a.eval (.tmp 50) = .pointer (some ⟨g, 9, none⟩) := hd 4 (by kernel_rfl)
                rw [eval_tmp] at e50
                have c9w := Ext.cell hF c9
                have c10w := Ext.cell hF c10
                have c11w := Ext.cell hF c11
                clear b1_0 b1_1 b1_2 bx_0 bx_1 bx_2 c6 c7 c8 c9 c10 c11 c12 c13 c14 c15 c16 c17 ba_0 ba_1 ba_2
                clear hd ho
                replace hK := Lib.hid hK
                go_simp
                exact hK.out _ _ rfl (Ext.refl _)
              · intro a w hE hd ho K hK
                have hF : Ext wa w := Ext.trans ((Ext.refl _).drew) hE
                have e4 : a.eval (.tmp 4) = .slice (some ⟨g, 0, none⟩) 6 c := ho 4 (by kernel_rfl)
                rw [eval_tmp] at e4
                clear b1_0 b1_1 b1_2 bx_0 bx_1 bx_2 c6 c7 c8 c9 c10 c11 c12 c13 c14 c15 c16 c17 ba_0 ba_1 ba_2
                clear hd ho
                replace hK := Lib.hid hK
                go_simp
                exact hK.out _ _ rfl (Ext.refl _)
              · intro a w hE hd ho K hK
                have hF : Ext wa w := Ext.trans ((Ext.refl _).drew) hE
                have e52 : a.eval (.tmp 52) = .slice (some ⟨g, 0, none⟩) 6 c := hd 6 (by kernel_rfl)
                rw [eval_tmp] at e52
                clear b1_0 b1_1 b1_2 bx_0 bx_1 bx_2 c6 c7 c8 c9 c10 c11 c12 c13 c14 c15 c16 c17 ba_0 ba_1 ba_2
                clear hd ho
                replace hK := Lib.hid hK
                go_simp
                exact hK.out _ _ rfl (Ext.refl _)
              · intro a w hE hd ho K hK
                have hF : Ext wa w := Ext.trans ((Ext.refl _).drew) hE
                have e53 : a.eval (.tmp 53) = .pointer (some ⟨g, 12, none⟩) := hd 7 (by kernel_rfl)
                rw [eval_tmp] at e53
                have c12w := Ext.cell hF c12
                have c13w := Ext.cell hF c13
                have c14w := Ext.cell hF c14
                clear b1_0 b1_1 b1_2 bx_0 bx_1 bx_2 c6 c7 c8 c9 c10 c11 c12 c13 c14 c15 c16 c17 ba_0 ba_1 ba_2
                clear hd ho
                replace hK := Lib.hid hK
                go_simp
                exact hK.out _ _ rfl (Ext.refl _)
              · intro a w hE hd ho K hK
                have hF : Ext wa w := Ext.trans ((Ext.refl _).drew) hE
                have e4 : a.eval (.tmp 4) = .slice (some ⟨g, 0, none⟩) 6 c := ho 4 (by kernel_rfl)
                rw [eval_tmp] at e4
                clear b1_0 b1_1 b1_2 bx_0 bx_1 bx_2 c6 c7 c8 c9 c10 c11 c12 c13 c14 c15 c16 c17 ba_0 ba_1 ba_2
                clear hd ho
                replace hK := Lib.hid hK
                go_simp
                exact hK.out _ _ rfl (Ext.refl _)
              · intro a w hE hd ho K hK
                have hF : Ext wa w := Ext.trans ((Ext.refl _).drew) hE
                have e55 : a.eval (.tmp 55) = .slice (some ⟨g, 0, none⟩) 6 c := hd 9 (by kernel_rfl)
                rw [eval_tmp] at e55
                clear b1_0 b1_1 b1_2 bx_0 bx_1 bx_2 c6 c7 c8 c9 c10 c11 c12 c13 c14 c15 c16 c17 ba_0 ba_1 ba_2
                clear hd ho
                replace hK := Lib.hid hK
                go_simp
                exact hK.out _ _ rfl (Ext.refl _)
              · intro a w hE hd ho K hK
                have hF : Ext wa w := Ext.trans ((Ext.refl _).drew) hE
                have e56 : a.eval (.tmp 56) = .pointer (some ⟨g, 15, none⟩) := hd 10 (by kernel_rfl)
                rw [eval_tmp] at e56
                have c15w := Ext.cell hF c15
                have c16w := Ext.cell hF c16
                have c17w := Ext.cell hF c17
                clear b1_0 b1_1 b1_2 bx_0 bx_1 bx_2 c6 c7 c8 c9 c10 c11 c12 c13 c14 c15 c16 c17 ba_0 ba_1 ba_2
                clear hd ho
                replace hK := Lib.hid hK
                go_simp
                exact hK.out _ _ rfl (Ext.refl _)
              · intro a w hE hd ho K hK
                have hF : Ext wa w := Ext.trans ((Ext.refl _).drew) hE
                have e47 : a.eval (.tmp 47) = .agg #[.int .u8 1, .int .i64 1, .int .i64 0] := hd 1 (by kernel_rfl)
                rw [eval_tmp] at e47
                have e48 : a.eval (.tmp 48) = .agg #[.int .u8 2, .int .i64 2, .int .i64 5] := hd 2 (by kernel_rfl)
                rw [eval_tmp] at e48
                have e51 : a.eval (.tmp 51) = .agg #[.int .u8 2, .int .i64 3, .int .i64 0] := hd 5 (by kernel_rfl)
                rw [eval_tmp] at e51
                have e54 : a.eval (.tmp 54) = .agg #[.int .u8 3, .int .i64 3, .int .i64 0] := hd 8 (by kernel_rfl)
                rw [eval_tmp] at e54
                have e57 : a.eval (.tmp 57) = .agg #[.int .u8 4, .int .i64 3, .int .i64 0] := hd 11 (by kernel_rfl)
                rw [eval_tmp] at e57
                clear b1_0 b1_1 b1_2 bx_0 bx_1 bx_2 c6 c7 c8 c9 c10 c11 c12 c13 c14 c15 c16 c17 ba_0 ba_1 ba_2
                clear hd ho
                replace hK := Lib.hid hK
                go_simp
                exact hK.out _ _ (Its.lit w _ [one29, x29 2, ⟨2, 3, 0⟩, ⟨3, 3, 0⟩, ⟨4, 3, 0⟩] _ _ rfl rfl (by simp [maxLen]) rfl) ((Ext.refl _).alloc _)
              · intro a w hE hd ho K hK
                have hF : Ext wa w := Ext.trans ((Ext.refl _).drew) hE
                have e4 : a.eval (.tmp 4) = .slice (some ⟨g, 0, none⟩) 6 c := ho 4 (by kernel_rfl)
                rw [eval_tmp] at e4
                clear b1_0 b1_1 b1_2 bx_0 bx_1 bx_2 c6 c7 c8 c9 c10 c11 c12 c13 c14 c15 c16 c17 ba_0 ba_1 ba_2
                clear hd ho
                replace hK := Lib.hid hK
                go_simp
                exact hK.out _ _ rfl (Ext.refl _)
              · intro a w hE hd ho K hK
                have hF : Ext wa w := Ext.trans ((Ext.refl _).drew) hE
                have e59 : a.eval (.tmp 59) = .slice (some ⟨g, 0, none⟩) 6 c := hd 13 (by kernel_rfl)
                rw [eval_tmp] at e59
                clear b1_0 b1_1 b1_2 bx_0 bx_1 bx_2 c6 c7 c8 c9 c10 c11 c12 c13 c14 c15 c16 c17 ba_0 ba_1 ba_2
                clear hd ho
                replace hK := Lib.hid hK
                go_simp
                exact hK.out _ _ rfl (Ext.refl _)
              · intro a w hE hd ho K hK
                have hF : Ext wa w := Ext.trans ((Ext.refl _).drew) hE
                have e60 : a.eval (.tmp 60) = .pointer (some ⟨g, 6, none⟩) := hd 14 (by kernel_rfl)
                rw [eval_tmp] at e60
                have c6w := Ext.cell hF c6
                have c7w := Ext.cell hF c7
                have c8w := Ext.cell hF c8
                clear b1_0 b1_1 b1_2 bx_0 bx_1 bx_2 c6 c7 c8 c9 c10 c11 c12 c13 c14 c15 c16 c17 ba_0 ba_1 ba_2
                clear hd ho
                replace hK := Lib.hid hK
                go_simp
                exact hK.out _ _ rfl (Ext.refl _)
              · intro a w hE hd ho K hK
                have hF : Ext wa w := Ext.trans ((Ext.refl _).drew) hE
                have e61 : a.eval (.tmp 61) = .agg #[.int .u8 1, .int .i64 3, .int .i64 0] := hd 15 (by kernel_rfl)
                rw [eval_tmp] at e61
                clear b1_0 b1_1 b1_2 bx_0 bx_1 bx_2 c6 c7 c8 c9 c10 c11 c12 c13 c14 c15 c16 c17 ba_0 ba_1 ba_2
                clear hd ho
                replace hK := Lib.hid hK
                go_simp
                exact hK.out _ _ (Its.lit w _ [⟨1, 3, 0⟩] _ _ rfl rfl (by simp [maxLen]) rfl) ((Ext.refl _).alloc _)
              · intro a w hE hd ho K hK
                have hF : Ext wa w := Ext.trans ((Ext.refl _).drew) hE
                have e46 : a.eval (.tmp 46) = .slice (some ⟨g, 0, none⟩) 6 c := hd 0 (by kernel_rfl)
                rw [eval_tmp] at e46
                have h58 : Its w (a.eval (.tmp 58)) [one29, x29 2, ⟨2, 3, 0⟩, ⟨3, 3, 0⟩, ⟨4, 3, 0⟩] := hd 12 (by kernel_rfl)
                obtain ⟨xa58, xc58, e58, xl58, -⟩ := h58.form
                rw [e58] at h58
                rw [eval_tmp] at e58
                have h62 : Its w (a.eval (.tmp 62)) [⟨1, 3, 0⟩] := hd 16 (by kernel_rfl)
                obtain ⟨xa62, xc62, e62, xl62, -⟩ := h62.form
                rw [e62] at h62
                rw [eval_tmp] at e62
                clear b1_0 b1_1 b1_2 bx_0 bx_1 bx_2 c6 c7 c8 c9 c10 c11 c12 c13 c14 c15 c16 c17 ba_0 ba_1 ba_2
                clear hd ho
                replace hK := Lib.hid hK
                go_simp
                refine (law29_leaves 2 false (l := s29 2 4) (hS.ext hF) h58 h62 la.out).mono ?_
                rintro e wz ⟨rfl, hZ⟩
                go_simp
                exact hK.out _ _ rfl hZ
              · intro a w hE hd ho K hK
                have hF : Ext wa w := Ext.trans ((Ext.refl _).drew) hE
                have e63 : a.eval (.tmp 63) = .bool true := hd 17 (by kernel_rfl)
                rw [eval_tmp] at e63
                clear b1_0 b1_1 b1_2 bx_0 bx_1 bx_2 c6 c7 c8 c9 c10 c11 c12 c13 c14 c15 c16 c17 ba_0 ba_1 ba_2
                clear hd ho
                replace hK := Lib.hid hK
                go_simp
                exact hK.out _ _ rfl (Ext.refl _)
            · intro vals wl hE hv
              have hF : Ext wa wl := Ext.trans ((Ext.refl _).drew) hE
              have e64 : vals 18 = .bool false := hv 18 (by decide)
              clear hv hE
              have hS := hS.ext hF; have hS2 := hS2.ext hF; have hXw := Ext.trans hXw hF
              replace b1_0 := Ext.cell hF b1_0
              replace b1_1 := Ext.cell hF b1_1
              replace b1_2 := Ext.cell hF b1_2
              replace ba_0 := Ext.cell hF ba_0
              replace ba_1 := Ext.cell hF ba_1
              replace ba_2 := Ext.cell hF ba_2
              clear bx_0 bx_1 bx_2 c6 c7 c8 c9 c10 c11 c12 c13 c14 c15 c16 c17
              simp only [putAll]
              rw [e64]
              clear e64 hF
              go_simp
              go_wp2
              refine wp_region_inv (L := [Pr.eq (.slice (some ⟨g, 0, none⟩) 6 c), Pr.eq (.agg #[.int .u8 1, .int .i64 1, .int .i64 0]), Pr.eq (.agg #[.int .u8 1, .int .i64 2, .int .i64 5]), PrI [one29, ⟨1, 2, 5⟩], Pr.eq (.slice (some ⟨g, 0, none⟩) 6 c), Pr.eq (.slice sv 4 (c - 2)), Pr.eq (.bool true), Pr.eq (.bool false)]) (by kernel_rfl) (by kernel_rfl) ?_ ?_
              · refine ⟨?_, ?_, ?_, ?_, ?_, ?_, ?_, ?_, trivial⟩
                · intro a w hE hd ho K hK
                  have hF : Ext wl w := Ext.trans ((Ext.refl _).drew) hE
                  have e4 : a.eval (.tmp 4) = .slice (some ⟨g, 0, none⟩) 6 c := ho 4 (by kernel_rfl)
                  rw [eval_tmp] at e4
                  clear b1_0 b1_1 b1_2 ba_0 ba_1 ba_2
                  clear hd ho
                  replace hK := Lib.hid hK
                  go_simp
                  exact hK.out _ _ rfl (Ext.refl _)
                · intro a w hE hd ho K hK
                  have hF : Ext wl w := Ext.trans ((Ext.refl _).drew) hE
                  have e1 : a.eval (.tmp 1) = .pointer (some ⟨B1, 0, none⟩) := ho 1 (by kernel_rfl)
                  rw [eval_tmp] at e1
                  have b1_0w := Ext.cell hF b1_0
                  have b1_1w := Ext.cell hF b1_1
                  have b1_2w := Ext.cell hF b1_2
                  clear b1_0 b1_1 b1_2 ba_0 ba_1 ba_2
                  clear hd ho
                  replace hK := Lib.hid hK
                  go_simp
                  exact hK.out _ _ rfl (Ext.refl _)
                · intro a w hE hd ho K hK
                  have hF : Ext wl w := Ext.trans ((Ext.refl _).drew) hE
                  have e6 : a.eval (.tmp 6) = .pointer (some ⟨BA, 0, none⟩) := ho 6 (by kernel_rfl)
                  rw [eval_tmp] at e6
                  have ba_0w := Ext.cell hF ba_0
                  have ba_1w := Ext.cell hF ba_1
                  have ba_2w := Ext.cell hF ba_2
                  clear b1_0 b1_1 b1_2 ba_0 ba_1 ba_2
                  clear hd ho
                  replace hK := Lib.hid hK
                  go_simp
                  exact hK.out _ _ rfl (Ext.refl _)
                · intro a w hE hd ho K hK
                  have hF : Ext wl w := Ext.trans ((Ext.refl _).drew) hE
                  have e71 : a.eval (.tmp 71) = .agg #[.int .u8 1, .int .i64 1, .int .i64 0] := hd 1 (by kernel_rfl)
                  rw [eval_tmp] at e71
                  have e72 : a.eval (.tmp 72) = .agg #[.int .u8 1, .int .i64 2, .int .i64 5] := hd 2 (by kernel_rfl)
                  rw [eval_tmp] at e72
                  clear b1_0 b1_1 b1_2 ba_0 ba_1 ba_2
                  clear hd ho
                  replace hK := Lib.hid hK
                  go_simp
                  exact hK.out _ _ (Its.lit w _ [one29, ⟨1, 2, 5⟩] _ _ rfl rfl (by simp [maxLen]) rfl) ((Ext.refl _).alloc _)
                · intro a w hE hd ho K hK
                  have hF : Ext wl w := Ext.trans ((Ext.refl _).drew) hE
                  have e4 : a.eval (.tmp 4) = .slice (some ⟨g, 0, none⟩) 6 c := ho 4 (by kernel_rfl)
                  rw [eval_tmp] at e4
                  clear b1_0 b1_1 b1_2 ba_0 ba_1 ba_2
                  clear hd ho
                  replace hK := Lib.hid hK
                  go_simp
                  exact hK.out _ _ rfl (Ext.refl _)
                · intro a w hE hd ho K hK
                  have hF : Ext wl w := Ext.trans ((Ext.refl _).drew) hE
                  have e74 : a.eval (.tmp 74) = .slice (some ⟨g, 0, none⟩) 6 c := hd 4 (by kernel_rfl)
                  rw [eval_tmp] at e74
                  clear b1_0 b1_1 b1_2 ba_0 ba_1 ba_2
                  clear hd ho
                  replace hK := Lib.hid hK
                  go_simp
                  exact hK.out _ _ rfl (Ext.refl _)
                · intro a w hE hd ho K hK
                  have hF : Ext wl w := Ext.trans ((Ext.refl _).drew) hE
                  have e70 : a.eval (.tmp 70) = .slice (some ⟨g, 0, none⟩) 6 c := hd 0 (by kernel_rfl)
                  rw [eval_tmp] at e70
                  have h73 : Its w (a.eval (.tmp 73)) [one29, ⟨1, 2, 5⟩] := hd 3 (by kernel_rfl)
                  obtain ⟨xa73, xc73, e73, xl73, -⟩ := h73.form
                  rw [e73] at h73
                  rw [eval_tmp] at e73
                  have e75 : a.eval (.tmp 75) = .slice sv 4 (c - 2) := hd 5 (by kernel_rfl)
                  rw [eval_tmp] at e75
                  clear b1_0 b1_1 b1_2 ba_0 ba_1 ba_2
                  clear hd ho
                  replace hK := Lib.hid hK
                  go_simp
                  refine (law29_leaves 2 true (l := s29 2 4) (hS.ext hF) h73 (hS2.ext hF) l29_c).mono ?_
                  rintro e wz ⟨rfl, hZ⟩
                  go_simp
                  exact hK.out _ _ rfl hZ
                · intro a w hE hd ho K hK
                  have hF : Ext wl w := Ext.trans ((Ext.refl _).drew) hE
                  have e76 : a.eval (.tmp 76) = .bool true := hd 6 (by kernel_rfl)
                  rw [eval_tmp] at e76
                  clear b1_0 b1_1 b1_2 ba_0 ba_1 ba_2
                  clear hd ho
                  replace hK := Lib.hid hK
                  go_simp
                  exact hK.out _ _ rfl (Ext.refl _)
              · intro vals wm hE hv
                have hF : Ext wl wm := Ext.trans ((Ext.refl _).drew) hE
                have e77 : vals 7 = .bool false := hv 7 (by decide)
                clear hv hE
                have hXw := Ext.trans hXw hF
                clear b1_0 b1_1 b1_2 ba_0 ba_1 ba_2
                simp only [putAll]
                rw [e77]
                clear e77
                go_simp
                go_wp2
                go_roundw
                case rel => exact ⟨3, by omega, by omega, rfl, hXw⟩
                case measure => simp [intOf]
          · have b1_0 : World.cell? wi ⟨B1, 0, none⟩ = some (.int .u8 1) := b1.cell 0
            have b1_1 : World.cell? wi ⟨B1, 1, none⟩ = some (.int .i64 1) := b1.cell 1
            have b1_2 : World.cell? wi ⟨B1, 2, none⟩ = some (.int .i64 0) := b1.cell 2
            have bx_0 : World.cell? wi ⟨BX, 0, none⟩ = some (.int .u8 3) := bx.cell 0
            have bx_1 : World.cell? wi ⟨BX, 1, none⟩ = some (.int .i64 2) := bx.cell 1
            have bx_2 : World.cell? wi ⟨BX, 2, none⟩ = some (.int .i64 5) := bx.cell 2
            have b1_l := b1.lt
            have bx_l := bx.lt
            go_upto_region 14 with fail
            clear b1_0 b1_1 b1_2 bx_0 bx_1 bx_2 b1_l bx_l
            have ba := Box.new wi 25 #[.int .u8 3, .int .i64 2, .int .i64 5]
            have hEa : Ext wi (World.alloc wi (.cells #[.int .u8 3, .int .i64 2, .int .i64 5] 25)) := (Ext.refl _).alloc _
            have hsq : Hid ((World.alloc wi (.cells #[.int .u8 3, .int .i64 2, .int .i64 5] 25)).heap.size = wi.heap.size + 1) := Hid.mk (by simp)
            obtain ⟨wa, hwa⟩ : ∃ z, (World.alloc wi (.cells #[.int .u8 3, .int .i64 2, .int .i64 5] 25)) = z := ⟨_, rfl⟩
            rw [hwa] at ba hEa hsq ⊢
            clear hwa
            obtain ⟨BA, hBA⟩ : ∃ n, Array.size (World.heap wi) = n := ⟨_, rfl⟩
            rw [hBA] at ba hsq ⊢
            clear hBA
            have b1 := b1.ext hEa; have bx := bx.ext hEa; have hS := hS.ext hEa; have hS2 := hS2.ext hEa; have hXw := Ext.trans hXw hEa
            replace c6 := Ext.cell hEa c6
            replace c7 := Ext.cell hEa c7
            replace c8 := Ext.cell hEa c8
            replace c9 := Ext.cell hEa c9
            replace c10 := Ext.cell hEa c10
            replace c11 := Ext.cell hEa c11
            replace c12 := Ext.cell hEa c12
            replace c13 := Ext.cell hEa c13
            replace c14 := Ext.cell hEa c14
            replace c15 := Ext.cell hEa c15
            replace c16 := Ext.cell hEa c16
            replace c17 := Ext.cell hEa c17
            have b1_0 : World.cell? wa ⟨B1, 0, none⟩ = some (.int .u8 1) := b1.cell 0
            have b1_1 : World.cell? wa ⟨B1, 1, none⟩ = some (.int .i64 1) := b1.cell 1
            have b1_2 : World.cell? wa ⟨B1, 2, none⟩ = some (.int .i64 0) := b1.cell 2
            have bx_0 : World.cell? wa ⟨BX, 0, none⟩ = some (.int .u8 3) := bx.cell 0
            have bx_1 : World.cell? wa ⟨BX, 1, none⟩ = some (.int .i64 2) := bx.cell 1
            have bx_2 : World.cell? wa ⟨BX, 2, none⟩ = some (.int .i64 5) := bx.cell 2
            have ba_0 : World.cell? wa ⟨BA, 0, none⟩ = some (.int .u8 3) := ba.cell 0
            have ba_1 : World.cell? wa ⟨BA, 1, none⟩ = some (.int .i64 2) := ba.cell 1
            have ba_2 : World.cell? wa ⟨BA, 2, none⟩ = some (.int .i64 5) := ba.cell 2
            refine wp_region_inv (L := [Pr.eq (.slice (some ⟨g, 0, none⟩) 6 c), Pr.eq (.agg #[.int .u8 1, .int .i64 1, .int .i64 0]), Pr.eq (.agg #[.int .u8 3, .int .i64 2, .int .i64 5]), Pr.eq (.slice (some ⟨g, 0, none⟩) 6 c), Pr.eq (.pointer (some ⟨g, 9, none⟩)), Pr.eq (.agg #[.int .u8 2, .int .i64 3, .int .i64 0]), Pr.eq (.slice (some ⟨g, 0, none⟩) 6 c), Pr.eq (.pointer (some ⟨g, 12, none⟩)), Pr.eq (.agg #[.int .u8 3, .int .i64 3, .int .i64 0]), Pr.eq (.slice (some ⟨g, 0, none⟩) 6 c), Pr.eq (.pointer (some ⟨g, 15, none⟩)), Pr.eq (.agg #[.int .u8 4, .int .i64 3, .int .i64 0]), PrI [one29, x29 3, ⟨2, 3, 0⟩, ⟨3, 3, 0⟩, ⟨4, 3, 0⟩], Pr.eq (.slice (some ⟨g, 0, none⟩) 6 c), Pr.eq (.pointer (some ⟨g, 6, none⟩)), Pr.eq (.agg #[.int .u8 1, .int .i64 3, .int .i64 0]), PrI [⟨1, 3, 0⟩], Pr.eq (.bool true), Pr.eq (.bool false)]) (by kernel_rfl) (by kernel_rfl) ?_ ?_
            · refine ⟨?_, ?_, ?_, ?_, ?_, ?_, ?_, ?_, ?_, ?_, ?_, ?_, ?_, ?_, ?_, ?_, ?_, ?_, ?_, trivial⟩
              · intro a w hE hd ho K hK
                have hF : Ext wa w := Ext.trans ((Ext.refl _).drew) hE
                have e4 : a.eval (.tmp 4) = .slice (some ⟨g, 0, none⟩) 6 c := ho 4 (by kernel_rfl)
                rw [eval_tmp] at e4
                clear b1_0 b1_1 b1_2 bx_0 bx_1 bx_2 c6 c7 c8 c9 c10 c11 c12 c13 c14 c15 c16 c17 ba_0 ba_1 ba_2
                clear hd ho
                replace hK := Lib.hid hK
                go_simp
                exact hK.out _ _ rfl (Ext.refl _)
              · intro a w hE hd ho K hK
                have hF : Ext wa w := Ext.trans ((Ext.refl _).drew) hE
                have e1 : a.eval (.tmp 1) = .pointer (some ⟨B1, 0, none⟩) := ho 1 (by kernel_rfl)
                rw [eval_tmp] at e1
                have b1_0w := Ext.cell hF b1_0
                have b1_1w := Ext.cell hF b1_1
                have b1_2w := Ext.cell hF b1_2
                clear b1_0 b1_1 b1_2 bx_0 bx_1 bx_2 c6 c7 c8 c9 c10 c11 c12 c13 c14 c15 c16 c17 ba_0 ba_1 ba_2
                clear hd ho
                replace hK := Lib.hid hK
                go_simp
                exact hK.out _ _ rfl (Ext.refl _)
              · intro a w hE hd ho K hK
                have hF : Ext wa w := Ext.trans ((Ext.refl _).drew) hE
                have e3 : a.eval (.tmp 3) = .pointer (some ⟨BX, 0, none⟩) := ho 3 (by kernel_rfl)
                rw [eval_tmp] at e3
                have bx_0w := Ext.cell hF bx_0
                have bx_1w := Ext.cell hF bx_1
                have bx_2w := Ext.cell hF bx_2
                clear b1_0 b1_1 b1_2 bx_0 bx_1 bx_2 c6 c7 c8 c9 c10 c11 c12 c13 c14 c15 c16 c17 ba_0 ba_1 ba_2
                clear hd ho
                replace hK := Lib.hid hK
                go_simp
                exact hK.out _ _ rfl (Ext.refl _)
              · intro a w hE hd ho K hK
                have hF : Ext wa w := Ext.trans ((Ext.refl _).drew) hE
                have e4 : a.eval (.tmp 4) = .slice (some ⟨g, 0, none⟩) 6 c := ho 4 (by kernel_rfl)
                rw [eval_tmp] at e4
                clear b1_0 b1_1 b1_2 bx_0 bx_1 bx_2 c6 c7 c8 c9 c10 c11 c12 c13 c14 c15 c16 c17 ba_0 ba_1 ba_2
                clear hd ho
                replace hK := Lib.hid hK
                go_simp
                exact hK.out _ _ rfl (Ext.refl _)
              · intro a w hE hd ho K hK
                have hF : Ext wa w := Ext.trans ((Ext.refl _).drew) hE
                have e49 : a.eval (.tmp 49) = .slice (some ⟨g, 0, none⟩) 6 c := hd 3 (by kernel_rfl)
                rw [eval_tmp] at e49
                clear b1_0 b1_1 b1_2 bx_0 bx_1 bx_2 c6 c7 c8 c9 c10 c11 c12 c13 c14 c15 c16 c17 ba_0 ba_1 ba_2
                clear hd ho
                replace hK := Lib.hid hK
                go_simp
                exact hK.out _ _ rfl (Ext.refl _)
              · intro a w hE hd ho K hK
                have hF : Ext wa w := Ext.trans ((Ext.refl _).drew) hE
                have e50 : a.eval (.tmp 50) = .pointer (some ⟨g, 9, none⟩) := hd 4 (by kernel_rfl)
                rw [eval_tmp] at e50
                have c9w := Ext.cell hF c9
                have c10w := Ext.cell hF c10
                have c11w := Ext.cell hF c11
                clear b1_0 b1_1 b1_2 bx_0 bx_1 bx_2 c6 c7 c8 c9 c10 c11 c12 c13 c14 c15 c16 c17 ba_0 ba_1 ba_2
                clear hd ho
                replace hK := Lib.hid hK
                go_simp
                exact hK.out _ _ rfl (Ext.refl _)
              · intro a w hE hd ho K hK
                have hF : Ext wa w := Ext.trans ((Ext.refl _).drew) hE
                have e4 : a.eval (.tmp 4) = .slice (some ⟨g, 0, none⟩) 6 c := ho 4 (by kernel_rfl)
                rw [eval_tmp] at e4
                clear b1_0 b1_1 b1_2 bx_0 bx_1 bx_2 c6 c7 c8 c9 c10 c11 c12 c13 c14 c15 c16 c17 ba_0 ba_1 ba_2
                clear hd ho
                replace hK := Lib.hid hK
                go_simp
                exact hK.out _ _ rfl (Ext.refl _)
              · intro a w hE hd ho K hK
                have hF : Ext wa w := Ext.trans ((Ext.refl _).drew) hE
                have e52 : a.eval (.tmp 52) = .slice (some ⟨g, 0, none⟩) 6 c := hd 6 (by kernel_rfl)
                rw [eval_tmp] at e52
                clear b1_0 b1_1 b1_2 bx_0 bx_1 bx_2 c6 c7 c8 c9 c10 c11 c12 c13 c14 c15 c16 c17 ba_0 ba_1 ba_2
                clear hd ho
                replace hK := Lib.hid hK
                go_simp
                exact hK.out _ _ rfl (Ext.refl _)
              · intro a w hE hd ho K hK
                have hF : Ext wa w := Ext.trans ((Ext.refl _).drew) hE
                have e53 : a.eval (.tmp 53) = .pointer (some ⟨g, 12, none⟩) := hd 7 (by kernel_rfl)
                rw [eval_tmp] at e53
                have c12w := Ext.cell hF c12
                have c13w := Ext.cell hF c13
                have c14w := Ext.cell hF c14
                clear b1_0 b1_1 b1_2 bx_0 bx_1 bx_2 c6 c7 c8 c9 c10 c11 c12 c13 c14 c15 c16 c17 ba_0 ba_1 ba_2
                clear hd ho
                replace hK := Lib.hid hK
                go_simp
                exact hK.out _ _ rfl (Ext.refl _)
              · intro a w hE hd ho K hK
                have hF : Ext wa w := Ext.trans ((Ext.refl _).drew) hE
                have e4 : a.eval (.tmp 4) = .slice (some ⟨g, 0, none⟩) 6 c := ho 4 (by kernel_rfl)
                rw [eval_tmp] at e4
                clear b1_0 b1_1 b1_2 bx_0 bx_1 bx_2 c6 c7 c8 c9 c10 c11 c12 c13 c14 c15 c16 c17 ba_0 ba_1 ba_2
                clear hd ho
                replace hK := Lib.hid hK
                go_simp
                exact hK.out _ _ rfl (Ext.refl _)
              · intro a w hE hd ho K hK
                have hF : Ext wa w := Ext.trans ((Ext.refl _).drew) hE
                have e55 : a.eval (.tmp 55) = .slice (some ⟨g, 0, none⟩) 6 c := hd 9 (by kernel_rfl)
                rw [eval_tmp] at e55
                clear b1_0 b1_1 b1_2 bx_0 bx_1 bx_2 c6 c7 c8 c9 c10 c11 c12 c13 c14 c15 c16 c17 ba_0 ba_1 ba_2
                clear hd ho
                replace hK := Lib.hid hK
                go_simp
                exact hK.out _ _ rfl (Ext.refl _)
              · intro a w hE hd ho K hK
                have hF : Ext wa w := Ext.trans ((Ext.refl _).drew) hE
                have e56 : a.eval (.tmp 56) = .pointer (some ⟨g, 15, none⟩) := hd 10 (by kernel_rfl)
                rw [eval_tmp] at e56
                have c15w := Ext.cell hF c15
                have c16w := Ext.cell hF c16
                have c17w := Ext.cell hF c17
                clear b1_0 b1_1 b1_2 bx_0 bx_1 bx_2 c6 c7 c8 c9 c10 c11 c12 c13 c14 c15 c16 c17 ba_0 ba_1 ba_2
                clear hd ho
                replace hK := Lib.hid hK
                go_simp
                exact hK.out _ _ rfl (Ext.refl _)
              · intro a w hE hd ho K hK
                have hF : Ext wa w := Ext.trans ((Ext.refl _).drew) hE
                have e47 : a.eval (.tmp 47) = .agg #[.int .u8 1, .int .i64 1, .int .i64 0] := hd 1 (by kernel_rfl)
                rw [eval_tmp] at e47
                have e48 : a.eval (.tmp 48) = .agg #[.int .u8 3, .int .i64 2, .int .i64 5] := hd 2 (by kernel_rfl)
                rw [eval_tmp] at e48
                have e51 : a.eval (.tmp 51) = .agg #[.int .u8 2, .int .i64 3, .int .i64 0] := hd 5 (by kernel_rfl)
                rw [eval_tmp] at e51
                have e54 : a.eval (.tmp 54) = .agg #[.int .u8 3, .int .i64 3, .int .i64 0] := hd 8 (by kernel_rfl)
                rw [eval_tmp] at e54
                have e57 : a.eval (.tmp 57) = .agg #[.int .u8 4, .int .i64 3, .int .i64 0] := hd 11 (by kernel_rfl)
                rw [eval_tmp] at e57
                clear b1_0 b1_1 b1_2 bx_0 bx_1 bx_2 c6 c7 c8 c9 c10 c11 c12 c13 c14 c15 c16 c17 ba_0 ba_1 ba_2
                clear hd ho
                replace hK := Lib.hid hK
                go_simp
                exact hK.out _ _ (Its.lit w _ [one29, x29 3, ⟨2, 3, 0⟩, ⟨3, 3, 0⟩, ⟨4, 3, 0⟩] _ _ rfl rfl (by simp [maxLen]) rfl) ((Ext.refl _).alloc _)
              · intro a w hE hd ho K hK
                have hF : Ext wa w := Ext.trans ((Ext.refl _).drew) hE
                have e4 : a.eval (.tmp 4) = .slice (some ⟨g, 0, none⟩) 6 c := ho 4 (by kernel_rfl)
                rw [eval_tmp] at e4
                clear b1_0 b1_1 b1_2 bx_0 bx_1 bx_2 c6 c7 c8 c9 c10 c11 c12 c13 c14 c15 c16 c17 ba_0 ba_1 ba_2
                clear hd ho
                replace hK := Lib.hid hK
                go_simp
                exact hK.out _ _ rfl (Ext.refl _)
              · intro a w hE hd ho K hK
                have hF : Ext wa w := Ext.trans ((Ext.refl _).drew) hE
                have e59 : a.eval (.tmp 59) = .slice (some ⟨g, 0, none⟩) 6 c := hd 13 (by kernel_rfl)
                rw [eval_tmp] at e59
                clear b1_0 b1_1 b1_2 bx_0 bx_1 bx_2 c6 c7 c8 c9 c10 c11 c12 c13 c14 c15 c16 c17 ba_0 ba_1 ba_2
                clear hd ho
                replace hK := Lib.hid hK
                go_simp
                exact hK.out _ _ rfl (Ext.refl _)
              · intro a w hE hd ho K hK
                have hF : Ext wa w := Ext.trans ((Ext.refl _).drew) hE
                have e60 : a.eval (.tmp 60) = .pointer (some ⟨g, 6, none⟩) := hd 14 (by kernel_rfl)
                rw [eval_tmp] at e60
                have c6w := Ext.cell hF c6
                have c7w := Ext.cell hF c7
                have c8w := Ext.cell hF c8
                clear b1_0 b1_1 b1_2 bx_0 bx_1 bx_2 c6 c7 c8 c9 c10 c11 c12 c13 c14 c15 c16 c17 ba_0 ba_1 ba_2
                clear hd ho
                replace hK := Lib.hid hK
                go_simp
                exact hK.out _ _ rfl (Ext.refl _)
              · intro a w hE hd ho K hK
                have hF : Ext wa w := Ext.trans ((Ext.refl _).drew) hE
                have e61 : a.eval (.tmp 61) = .agg #[.int .u8 1, .int .i64 3, .int .i64 0] := hd 15 (by kernel_rfl)
                rw [eval_tmp] at e61
                clear b1_0 b1_1 b1_2 bx_0 bx_1 bx_2 c6 c7 c8 c9 c10 c11 c12 c13 c14 c15 c16 c17 ba_0 ba_1 ba_2
                clear hd ho
                replace hK := Lib.hid hK
                go_simp
                exact hK.out _ _ (Its.lit w _ [⟨1, 3, 0⟩] _ _ rfl rfl (by simp [maxLen]) rfl) ((Ext.refl _).alloc _)
              · intro a w hE hd ho K hK
                have hF : Ext wa w := Ext.trans ((Ext.refl _).drew) hE
                have e46 : a.eval (.tmp 46) = .slice (some ⟨g, 0, none⟩) 6 c := hd 0 (by kernel_rfl)
                rw [eval_tmp] at e46
                have h58 : Its w (a.eval (.tmp 58)) [one29, x29 3, ⟨2, 3, 0⟩, ⟨3, 3, 0⟩, ⟨4, 3, 0⟩] := hd 12 (by kernel_rfl)
                obtain ⟨xa58, xc58, e58, xl58, -⟩ := h58.form
                rw [e58] at h58
                rw [eval_tmp] at e58
                have h62 : Its w (a.eval (.tmp 62)) [⟨1, 3, 0⟩] := hd 16 (by kernel_rfl)
                obtain ⟨xa62, xc62, e62, xl62, -⟩ := h62.form
                rw [e62] at h62
                rw [eval_tmp] at e62
                clear b1_0 b1_1 b1_2 bx_0 bx_1 bx_2 c6 c7 c8 c9 c10 c11 c12 c13 c14 c15 c16 c17 ba_0 ba_1 ba_2
                clear hd ho
                replace hK := Lib.hid hK
                go_simp
                refine (law29_leaves 2 false (l := s29 3 4) (hS.ext hF) h58 h62 la.out).mono ?_
                rintro e wz ⟨rfl, hZ⟩
                go_simp
                exact hK.out _ _ rfl hZ
              · intro a w hE hd ho K hK
                have hF : Ext wa w := Ext.trans ((Ext.refl _).drew) hE
                have e63 : a.eval (.tmp 63) = .bool true := hd 17 (by kernel_rfl)
                rw [eval_tmp] at e63
                clear b1_0 b1_1 b1_2 bx_0 bx_1 bx_2 c6 c7 c8 c9 c10 c11 c12 c13 c14 c15 c16 c17 ba_0 ba_1 ba_2
                clear hd ho
                replace hK := Lib.hid hK
                go_simp
                exact hK.out _ _ rfl (Ext.refl _)
            · intro vals wl hE hv
              have hF : Ext wa wl := Ext.trans ((Ext.refl _).drew) hE
              have e64 : vals 18 = .bool false := hv 18 (by decide)
              clear hv hE
              have hS := hS.ext hF; have hS2 := hS2.ext hF; have hXw := Ext.trans hXw hF
              replace b1_0 := Ext.cell hF b1_0
              replace b1_1 := Ext.cell hF b1_1
              replace b1_2 := Ext.cell hF b1_2
              replace ba_0 := Ext.cell hF ba_0
              replace ba_1 := Ext.cell hF ba_1
              replace ba_2 := Ext.cell hF ba_2
              clear bx_0 bx_1 bx_2 c6 c7 c8 c9 c10 c11 c12 c13 c14 c15 c16 c17
              simp only [putAll]
              rw [e64]
              clear e64 hF
              go_simp
              go_wp2
              refine wp_region_inv (L := [Pr.eq (.slice (some ⟨g, 0, none⟩) 6 c), Pr.eq (.agg #[.int .u8 1, .int .i64 1, .int .i64 0]), Pr.eq (.agg #[.int .u8 3, .int .i64 2, .int .i64 5]), PrI [one29, ⟨3, 2, 5⟩], Pr.eq (.slice (some ⟨g, 0, none⟩) 6 c), Pr.eq (.slice sv 4 (c - 2)), Pr.eq (.bool true), Pr.eq (.bool false)]) (by kernel_rfl) (by kernel_rfl) ?_ ?_
              · refine ⟨?_, ?_, ?_, ?_, ?_, ?_, ?_, ?_, trivial⟩
                · intro a w hE hd ho K hK
                  have hF : Ext wl w := Ext.trans ((Ext.refl _).drew) hE
                  have e4 : a.eval (.tmp 4) = .slice (some ⟨g, 0, none⟩) 6 c := ho 4 (by kernel_rfl)
                  rw [eval_tmp] at e4
                  clear b1_0 b1_1 b1_2 ba_0 ba_1 ba_2
                  clear hd ho
                  replace hK := Lib.hid hK
                  go_simp
                  exact hK.out _ _ rfl (Ext.refl _)
                · intro a w hE hd ho K hK
                  have hF : Ext wl w := Ext.trans ((Ext.refl _).drew) hE
                  have e1 : a.eval (.tmp 1) = .pointer (some ⟨B1, 0, none⟩) := ho 1 (by kernel_rfl)
                  rw [eval_tmp] at e1
                  have b1_0w := Ext.cell hF b1_0
                  have b1_1w := Ext.cell hF b1_1
                  have b1_2w := Ext.cell hF b1_2
                  clear b1_0 b1_1 b1_2 ba_0 ba_1 ba_2
                  clear hd ho
                  replace hK := Lib.hid hK
                  go_simp
                  exact hK.out _ _ rfl (Ext.refl _)
                · intro a w hE hd ho K hK
                  have hF : Ext wl w := Ext.trans ((Ext.refl _).drew) hE
                  have e6 : a.eval (.tmp 6) = .pointer (some ⟨BA, 0, none⟩) := ho 6 (by kernel_rfl)
                  rw [eval_tmp] at e6
                  have ba_0w := Ext.cell hF ba_0
                  have ba_1w := Ext.cell hF ba_1
                  have ba_2w := Ext.cell hF ba_2
                  clear b1_0 b1_1 b1_2 ba_0 ba_1 ba_2
                  clear hd ho
                  replace hK := Lib.hid hK
                  go_simp
                  exact hK.out _ _ rfl (Ext.refl _)
                · intro a w hE hd ho K hK
                  have hF : Ext wl w := Ext.trans ((Ext.refl _).drew) hE
                  have e71 : a.eval (.tmp 71) = .agg #[.int .u8 1, .int .i64 1, .int .i64 0] := hd 1 (by kernel_rfl)
                  rw [eval_tmp] at e71
                  have e72 : a.eval (.tmp 72) = .agg #[.int .u8 3, .int .i64 2, .int .i64 5] := hd 2 (by kernel_rfl)
                  rw [eval_tmp] at e72
                  clear b1_0 b1_1 b1_2 ba_0 ba_1 ba_2
                  clear hd ho
                  replace hK := Lib.hid hK
                  go_simp
                  exact hK.out _ _ (Its.lit w _ [one29, ⟨3, 2, 5⟩] _ _ rfl rfl (by simp [maxLen]) rfl) ((Ext.refl _).alloc _)
                · intro a w hE hd ho K hK
                  have hF : Ext wl w := Ext.trans ((Ext.refl _).drew) hE
                  have e4 : a.eval (.tmp 4) = .slice (some ⟨g, 0, none⟩) 6 c := ho 4 (by kernel_rfl)
                  rw [eval_tmp] at e4
                  clear b1_0 b1_1 b1_2 ba_0 ba_1 ba_2
                  clear hd ho
                  replace hK := Lib.hid hK
                  go_simp
                  exact hK.out _ _ rfl (Ext.refl _)
                · intro a w hE hd ho K hK
                  have hF : Ext wl w := Ext.trans ((Ext.refl _).drew) hE
                  have e74 : a.eval (.tmp 74) = .slice (some ⟨g, 0, none⟩) 6 c := hd 4 (by kernel_rfl)
                  rw [eval_tmp] at e74
                  clear b1_0 b1_1 b1_2 ba_0 ba_1 ba_2
                  clear hd ho
                  replace hK := Lib.hid hK
                  go_simp
                  exact hK.out _ _ rfl (Ext.refl _)
                · intro a w hE hd ho K hK
                  have hF : Ext wl w := Ext.trans ((Ext.refl _).drew) hE
                  have e70 : a.eval (.tmp 70) = .slice (some ⟨g, 0, none⟩) 6 c := hd 0 (by kernel_rfl)
                  rw [eval_tmp] at e70
                  have h73 : Its w (a.eval (.tmp 73)) [one29, ⟨3, 2, 5⟩] := hd 3 (by kernel_rfl)
                  obtain ⟨xa73, xc73, e73, xl73, -⟩ := h73.form
                  rw [e73] at h73
                  rw [eval_tmp] at e73
                  have e75 : a.eval (.tmp 75) = .slice sv 4 (c - 2) := hd 5 (by kernel_rfl)
                  rw [eval_tmp] at e75
                  clear b1_0 b1_1 b1_2 ba_0 ba_1 ba_2
                  clear hd ho
                  replace hK := Lib.hid hK
                  go_simp
                  refine (law29_leaves 2 true (l := s29 3 4) (hS.ext hF) h73 (hS2.ext hF) (l29_d (q := 3) (by decide))).mono ?_
                  rintro e wz ⟨rfl, hZ⟩
                  go_simp
                  exact hK.out _ _ rfl hZ
                · intro a w hE hd ho K hK
                  have hF : Ext wl w := Ext.trans ((Ext.refl _).drew) hE
                  have e76 : a.eval (.tmp 76) = .bool true := hd 6 (by kernel_rfl)
                  rw [eval_tmp] at e76
                  clear b1_0 b1_1 b1_2 ba_0 ba_1 ba_2
                  clear hd ho
                  replace hK := Lib.hid hK
                  go_simp
                  exact hK.out _ _ rfl (Ext.refl _)
              · intro vals wm hE hv
                have hF : Ext wl wm := Ext.trans ((Ext.refl _).drew) hE
                have e77 : vals 7 = .bool false := hv 7 (by decide)
                clear hv hE
                have hXw := Ext.trans hXw hF
                clear b1_0 b1_1 b1_2 ba_0 ba_1 ba_2
                simp only [putAll]
                rw [e77]
                clear e77
                go_simp
                go_wp2
                go_roundw
                case rel => exact ⟨4, by omega, by omega, rfl, hXw⟩
                case measure => simp [intOf]
          · have b1_0 : World.cell? wi ⟨B1, 0, none⟩ = some (.int .u8 1) := b1.cell 0
            have b1_1 : World.cell? wi ⟨B1, 1, none⟩ = some (.int .i64 1) := b1.cell 1
            have b1_2 : World.cell? wi ⟨B1, 2, none⟩ = some (.int .i64 0) := b1.cell 2
            have bx_0 : World.cell? wi ⟨BX, 0, none⟩ = some (.int .u8 4) := bx.cell 0
            have bx_1 : World.cell? wi ⟨BX, 1, none⟩ = some (.int .i64 2) := bx.cell 1
            have bx_2 : World.cell? wi ⟨BX, 2, none⟩ = some (.int .i64 5) := bx.cell 2
            have b1_l := b1.lt
            have bx_l := bx.lt
            go_upto_region 14 with fail
            clear b1_0 b1_1 b1_2 bx_0 bx_1 bx_2 b1_l bx_l
            have ba := Box.new wi 25 #[.int .u8 4, .int .i64 2, .int .i64 5]
            have hEa : Ext wi (World.alloc wi (.cells #[.int .u8 4, .int .i64 2, .int .i64 5] 25)) := (Ext.refl _).alloc _
            have hsq : Hid ((World.alloc wi (.cells #[.int .u8 4, .int .i64 2, .int .i64 5] 25)).heap.size = wi.heap.size + 1) := Hid.mk (by simp)
            obtain ⟨wa, hwa⟩ : ∃ z, (World.alloc wi (.cells #[.int .u8 4, .int .i64 2, .int .i64 5] 25)) = z := ⟨_, rfl⟩
            rw [hwa] at ba hEa hsq ⊢
            clear hwa
            obtain ⟨BA, hBA⟩ : ∃ n, Array.size (World.heap wi) = n := ⟨_, rfl⟩
            rw [hBA] at ba hsq ⊢
            clear hBA
            have b1 := b1.ext hEa; have bx := bx.ext hEa; have hS := hS.ext hEa; have hS2 := hS2.ext hEa; have hXw := Ext.trans hXw hEa
            replace c6 := Ext.cell hEa c6
            replace c7 := Ext.cell hEa c7
            replace c8 := Ext.cell hEa c8
            replace c9 := Ext.cell hEa c9
            replace c10 := Ext.cell hEa c10
            replace c11 := Ext.cell hEa c11
            replace c12 := Ext.cell hEa c12
            replace c13 := Ext.cell hEa c13
            replace c14 := Ext.cell hEa c14
            replace c15 := Ext.cell hEa c15
            replace c16 := Ext.cell hEa c16
            replace c17 := Ext.cell hEa c17
            have b1_0 : World.cell? wa ⟨B1, 0, none⟩ = some (.int .u8 1) := b1.cell 0
            have b1_1 : World.cell? wa ⟨B1, 1, none⟩ = some (.int .i64 1) := b1.cell 1
            have b1_2 : World.cell? wa ⟨B1, 2, none⟩ = some (.int .i64 0) := b1.cell 2
            have bx_0 : World.cell? wa ⟨BX, 0, none⟩ = some (.int .u8 4) := bx.cell 0
            have bx_1 : World.cell? wa ⟨BX, 1, none⟩ = some (.int .i64 2) := bx.cell 1
            have bx_2 : World.cell? wa ⟨BX, 2, none⟩ = some (.int .i64 5) := bx.cell 2
            have ba_0 : World.cell? wa ⟨BA, 0, none⟩ = some (.int .u8 4) := ba.cell 0
            have ba_1 : World.cell? wa ⟨BA, 1, none⟩ = some (.int .i64 2) := ba.cell 1
            have ba_2 : World.cell? wa ⟨BA, 2, none⟩ = some (.int .i64 5) := ba.cell 2
            refine wp_region_inv (L := [Pr.eq (.slice (some ⟨g, 0, none⟩) 6 c), Pr.eq (.agg #[.int .u8 1, .int .i64 1, .int .i64 0]), Pr.eq (.agg #[.int .u8 4, .int .i64 2, .int .i64 5]), Pr.eq (.slice (some ⟨g, 0, none⟩) 6 c), Pr.eq (.pointer (some ⟨g, 9, none⟩)), Pr.eq (.agg #[.int .u8 2, .int .i64 3, .int .i64 0]), Pr.eq (.slice (some ⟨g, 0, none⟩) 6 c), Pr.eq (.pointer (some ⟨g, 12, none⟩)), Pr.eq (.agg #[.int .u8 3, .int .i64 3, .int .i64 0]), Pr.eq (.slice (some ⟨g, 0, none⟩) 6 c), Pr.eq (.pointer (some ⟨g, 15, none⟩)), Pr.eq (.agg #[.int .u8 4, .int .i64 3, .int .i64 0]), PrI [one29, x29 4, ⟨2, 3, 0⟩, ⟨3, 3, 0⟩, ⟨4, 3, 0⟩], Pr.eq (.slice (some ⟨g, 0, none⟩) 6 c), Pr.eq (.pointer (some ⟨g, 6, none⟩)), Pr.eq (.agg #[.int .u8 1, .int .i64 3, .int .i64 0]), PrI [⟨1, 3, 0⟩], Pr.eq (.bool true), Pr.eq (.bool false)]) (by kernel_rfl) (by kernel_rfl) ?_ ?_
            · refine ⟨?_, ?_, ?_, ?_, ?_, ?_, ?_, ?_, ?_, ?_, ?_, ?_, ?_, ?_, ?_, ?_, ?_, ?_, ?_, trivial⟩
              · intro a w hE hd ho K hK
                have hF : Ext wa w := Ext.trans ((Ext.refl _).drew) hE
                have e4 : a.eval (.tmp 4) = .slice (some ⟨g, 0, none⟩) 6 c := ho 4 (by kernel_rfl)
                rw [eval_tmp] at e4
                clear b1_0 b1_1 b1_2 bx_0 bx_1 bx_2 c6 c7 c8 c9 c10 c11 c12 c13 c14 c15 c16 c17
                clear hd ho
                replace hK := Lib.hid hK
                go_simp
                exact hK.out _ _ rfl (Ext.refl _)
              · intro a w hE hd ho K hK
                have hF : Ext wa w := Ext.trans ((Ext.refl _).drew) hE
                have e1 : a.eval (.tmp 1) = .pointer (some ⟨B1, 0, none⟩) := ho 1 (by kernel_rfl)
                rw [eval_tmp] at e1
                have b1_0w := Ext.cell hF b1_0
                have b1_1w := Ext.cell hF b1_1
                have b1_2w := Ext.cell hF b1_2
                clear b1_0 b1_1 b1_2 bx_0 bx_1 bx_2 c6 c7 c8 c9 c10 c11 c12 c13 c14 c15 c16 c17
                clear hd ho
                replace hK := Lib.hid hK
                go_simp
                exact hK.out _ _ rfl (Ext.refl _)
              · intro a w hE hd ho K hK
                have hF : Ext wa w := Ext.trans ((Ext.refl _).drew) hE
                have e3 : a.eval (.tmp 3) = .pointer (some ⟨BX, 0, none⟩) := ho 3 (by kernel_rfl)
                rw [eval_tmp] at e3
                have bx_0w := Ext.cell hF bx_0
                have bx_1w := Ext.cell hF bx_1
                have bx_2w := Ext.cell hF bx_2
                clear b1_0 b1_1 b1_2 bx_0 bx_1 bx_2 c6 c7 c8 c9 c10 c11 c12 c13 c14 c15 c16 c17
                clear hd ho
                replace hK := Lib.hid hK
                go_simp
                exact hK.out _ _ rfl (Ext.refl _)
              · intro a w hE hd ho K hK
                have hF : Ext wa w := Ext.trans ((Ext.refl _).drew) hE
                have e4 : a.eval (.tmp 4) = .slice (some ⟨g, 0, none⟩) 6 c := ho 4 (by kernel_rfl)
                rw [eval_tmp] at e4
                clear b1_0 b1_1 b1_2 bx_0 bx_1 bx_2 c6 c7 c8 c9 c10 c11 c12 c13 c14 c15 c16 c17
                clear hd ho
                replace hK := Lib.hid hK
                go_simp
                exact hK.out _ _ rfl (Ext.refl _)
              · intro a w hE hd ho K hK
                have hF : Ext wa w := Ext.trans ((Ext.refl _).drew) hE
                have e49 : a.eval (.tmp 49) = .slice (some ⟨g, 0, none⟩) 6 c := hd 3 (by kernel_rfl)
                rw [eval_tmp] at e49
                clear b1_0 b1_1 b1_2 bx_0 bx_1 bx_2 c6 c7 c8 c9 c10 c11 c12 c13 c14 c15 c16 c17
                clear hd ho
                replace hK := Lib.hid hK
                go_simp
                exact hK.out _ _ rfl (Ext.refl _)
              · intro a w hE hd ho K hK
                have hF : Ext wa w := Ext.trans ((Ext.refl _).drew) hE
                have e50 : a.eval (.tmp 50) = .pointer (some ⟨g, 9, none⟩) := hd 4 (by kernel_rfl)
                rw [eval_tmp] at e50
                have c9w := Ext.cell hF c9
                have c10w := Ext.cell hF c10
                have c11w := Ext.cell hF c11
                clear b1_0 b1_1 b1_2 bx_0 bx_1 bx_2 c6 c7 c8 c9 c10 c11 c12 c13 c14 c15 c16 c17
                clear hd ho
                replace hK := Lib.hid hK
                go_simp
                exact hK.out _ _ rfl (Ext.refl _)
              · intro a w hE hd ho K hK
                have hF : Ext wa w := Ext.trans ((Ext.refl _).drew) hE
                have e4 : a.eval (.tmp 4) = .slice (some ⟨g, 0, none⟩) 6 c := ho 4 (by kernel_rfl)
                rw [eval_tmp] at e4
                clear b1_0 b1_1 b1_2 bx_0 bx_1 bx_2 c6 c7 c8 c9 c10 c11 c12 c13 c14 c15 c16 c17
                clear hd ho
                replace hK := Lib.hid hK
                go_simp
                exact hK.out _ _ rfl (Ext.refl _)
              · intro a w hE hd ho K hK
                have hF : Ext wa w := Ext.trans ((Ext.refl _).drew) hE
                have e52 : a.eval (.tmp 52) = .slice (some ⟨g, 0, none⟩) 6 c := hd 6 (by kernel_rfl)
                rw [eval_tmp] at e52
                clear b1_0 b1_1 b1_2 bx_0 bx_1 bx_2 c6 c7 c8 c9 c10 c11 c12 c13 c14 c15 c16 c17
                clear hd ho
                replace hK := Lib.hid hK
                go_simp
                exact hK.out _ _ rfl (Ext.refl _)
              · intro a w hE hd ho K hK
                have hF : Ext wa w := Ext.trans ((Ext.refl _).drew) hE
                have e53 : a.eval (.tmp 53) = .pointer (some ⟨g, 12, none⟩) := hd 7 (by kernel_rfl)
                rw [eval_tmp] at e53
                have c12w := Ext.cell hF c12
                have c13w := Ext.cell hF c13
                have c14w := Ext.cell hF c14
                clear b1_0 b1_1 b1_2 bx_0 bx_1 bx_2 c6 c7 c8 c9 c10 c11 c12 c13 c14 c15 c16 c17
                clear hd ho
                replace hK := Lib.hid hK
                go_simp
                exact hK.out _ _ rfl (Ext.refl _)
              · intro a w hE hd ho K hK
                have hF : Ext wa w := Ext.trans ((Ext.refl _).drew) hE
                have e4 : a.eval (.tmp 4) = .slice (some ⟨g, 0, none⟩) 6 c := ho 4 (by kernel_rfl)
                rw [eval_tmp] at e4
                clear b1_0 b1_1 b1_2 bx_0 bx_1 bx_2 c6 c7 c8 c9 c10 c11 c12 c13 c14 c15 c16 c17
                clear hd ho
                replace hK := Lib.hid hK
                go_simp
                exact hK.out _ _ rfl (Ext.refl _)
              · intro a w hE hd ho K hK
                have hF : Ext wa w := Ext.trans ((Ext.refl _).drew) hE
                have e55 : a.eval (.tmp 55) = .slice (some ⟨g, 0, none⟩) 6 c := hd 9 (by kernel_rfl)
                rw [eval_tmp] at e55
                clear b1_0 b1_1 b1_2 bx_0 bx_1 bx_2 c6 c7 c8 c9 c10 c11 c12 c13 c14 c15 c16 c17
                clear hd ho
                replace hK := Lib.hid hK
                go_simp
                exact hK.out _ _ rfl (Ext.refl _)
              · intro a w hE hd ho K hK
                have hF : Ext wa w := Ext.trans ((Ext.refl _).drew) hE
                have e56 : a.eval (.tmp 56) = .pointer (some ⟨g, 15, none⟩) := hd 10 (by kernel_rfl)
                rw [eval_tmp] at e56
                have c15w := Ext.cell hF c15
                have c16w := Ext.cell hF c16
                have c17w := Ext.cell hF c17
                clear b1_0 b1_1 b1_2 bx_0 bx_1 bx_2 c6 c7 c8 c9 c10 c11 c12 c13 c14 c15 c16 c17
                clear hd ho
                replace hK := Lib.hid hK
                go_simp
                exact hK.out _ _ rfl (Ext.refl _)
              · intro a w hE hd ho K hK
                have hF : Ext wa w := Ext.trans ((Ext.refl _).drew) hE
                have e47 : a.eval (.tmp 47) = .agg #[.int .u8 1, .int .i64 1, .int .i64 0] := hd 1 (by kernel_rfl)
                rw [eval_tmp] at e47
                have e48 : a.eval (.tmp 48) = .agg #[.int .u8 4, .int .i64 2, .int .i64 5] := hd 2 (by kernel_rfl)
                rw [eval_tmp] at e48
                have e51 : a.eval (.tmp 51) = .agg #[.int .u8 2, .int .i64 3, .int .i64 0] := hd 5 (by kernel_rfl)
                rw [eval_tmp] at e51
                have e54 : a.eval (.tmp 54) = .agg #[.int .u8 3, .int .i64 3, .int .i64 0] := hd 8 (by kernel_rfl)
                rw [eval_tmp] at e54
                have e57 : a.eval (.tmp 57) = .agg #[.int .u8 4, .int .i64 3, .int .i64 0] := hd 11 (by kernel_rfl)
                rw [eval_tmp] at e57
                clear b1_0 b1_1 b1_2 bx_0 bx_1 bx_2 c6 c7 c8 c9 c10 c11 c12 c13 c14 c15 c16 c17
                clear hd ho
                replace hK := Lib.hid hK
                go_simp
                exact hK.out _ _ (Its.lit w _ [one29, x29 4, ⟨2, 3, 0⟩, ⟨3, 3, 0⟩, ⟨4, 3, 0⟩] _ _ rfl rfl (by simp [maxLen]) rfl) ((Ext.refl _).alloc _)
              · intro a w hE hd ho K hK
                have hF : Ext wa w := Ext.trans ((Ext.refl _).drew) hE
                have e4 : a.eval (.tmp 4) = .slice (some ⟨g, 0, none⟩) 6 c := ho 4 (by kernel_rfl)
                rw [eval_tmp] at e4
                clear b1_0 b1_1 b1_2 bx_0 bx_1 bx_2 c6 c7 c8 c9 c10 c11 c12 c13 c14 c15 c16 c17
                clear hd ho
                replace hK := Lib.hid hK
                go_simp
                exact hK.out _ _ rfl (Ext.refl _)
              · intro a w hE hd ho K hK
                have hF : Ext wa w := Ext.trans ((Ext.refl _).drew) hE
                have e59 : a.eval (.tmp 59) = .slice (some ⟨g, 0, none⟩) 6 c := hd 13 (by kernel_rfl)
                rw [eval_tmp] at e59
                clear b1_0 b1_1 b1_2 bx_0 bx_1 bx_2 c6 c7 c8 c9 c10 c11 c12 c13 c14 c15 c16 c17
                clear hd ho
                replace hK := Lib.hid hK
                go_simp
                exact hK.out _ _ rfl (Ext.refl _)
              · intro a w hE hd ho K hK
                have hF : Ext wa w := Ext.trans ((Ext.refl _).drew) hE
                have e60 : a.eval (.tmp 60) = .pointer (some ⟨g, 6, none⟩) := hd 14 (by kernel_rfl)
                rw [eval_tmp] at e60
                have c6w := Ext.cell hF c6
                have c7w := Ext.cell hF c7
                have c8w := Ext.cell hF c8
                clear b1_0 b1_1 b1_2 bx_0 bx_1 bx_2 c6 c7 c8 c9 c10 c11 c12 c13 c14 c15 c16 c17
                clear hd ho
                replace hK := Lib.hid hK
                go_simp
                exact hK.out _ _ rfl (Ext.refl _)
              · intro a w hE hd ho K hK
                have hF : Ext wa w := Ext.trans ((Ext.refl _).drew) hE
                have e61 : a.eval (.tmp 61) = .agg #[.int .u8 1, .int .i64 3, .int .i64 0] := hd 15 (by kernel_rfl)
                rw [eval_tmp] at e61
                clear b1_0 b1_1 b1_2 bx_0 bx_1 bx_2 c6 c7 c8 c9 c10 c11 c12 c13 c14 c15 c16 c17
                clear hd ho
                replace hK := Lib.hid hK
                go_simp
                exact hK.out _ _ (Its.lit w _ [⟨1, 3, 0⟩] _ _ rfl rfl (by simp [maxLen]) rfl) ((Ext.refl _).alloc _)
              · intro a w hE hd ho K hK
                have hF : Ext wa w := Ext.trans ((Ext.refl _).drew) hE
                have e46 : a.eval (.tmp 46) = .slice (some ⟨g, 0, none⟩) 6 c := hd 0 (by kernel_rfl)
                rw [eval_tmp] at e46
                have h58 : Its w (a.eval (.tmp 58)) [one29, x29 4, ⟨2, 3, 0⟩, ⟨3, 3, 0⟩, ⟨4, 3, 0⟩] := hd 12 (by kernel_rfl)
                obtain ⟨xa58, xc58, e58, xl58, -⟩ := h58.form
                rw [e58] at h58
                rw [eval_tmp] at e58
                have h62 : Its w (a.eval (.tmp 62)) [⟨1, 3, 0⟩] := hd 16 (by kernel_rfl)
                obtain ⟨xa62, xc62, e62, xl62, -⟩ := h62.form
                rw [e62] at h62
                rw [eval_tmp] at e62
                clear b1_0 b1_1 b1_2 bx_0 bx_1 bx_2 c6 c7 c8 c9 c10 c11 c12 c13 c14 c15 c16 c17
                clear hd ho
                replace hK := Lib.hid hK
                go_simp
                refine (law29_leaves 2 false (l := s29 4 4) (hS.ext hF) h58 h62 la.out).mono ?_
                rintro e wz ⟨rfl, hZ⟩
                go_simp
                exact hK.out _ _ rfl hZ
              · intro a w hE hd ho K hK
                have hF : Ext wa w := Ext.trans ((Ext.refl _).drew) hE
                have e63 : a.eval (.tmp 63) = .bool true := hd 17 (by kernel_rfl)
                rw [eval_tmp] at e63
                clear b1_0 b1_1 b1_2 bx_0 bx_1 bx_2 c6 c7 c8 c9 c10 c11 c12 c13 c14 c15 c16 c17
                clear hd ho
                replace hK := Lib.hid hK
                go_simp
                exact hK.out _ _ rfl (Ext.refl _)
            · intro vals wl hE hv
              have hF : Ext wa wl := Ext.trans ((Ext.refl _).drew) hE
              have e64 : vals 18 = .bool false := hv 18 (by decide)
              clear hv hE
              have hS := hS.ext hF; have hS2 := hS2.ext hF; have hXw := Ext.trans hXw hF
              replace b1_0 := Ext.cell hF b1_0
              replace b1_1 := Ext.cell hF b1_1
              replace b1_2 := Ext.cell hF b1_2
              clear bx_0 bx_1 bx_2 c6 c7 c8 c9 c10 c11 c12 c13 c14 c15 c16 c17 ba_0 ba_1 ba_2
              simp only [putAll]
              rw [e64]
              clear e64 hF
              go_simp
              clear b1_0 b1_1 b1_2
              go_wp2_with fail
              refine (law29_none 2 true (l := s29 4 4) hS l29_b).mono ?_
              rintro e wn ⟨rfl, hEn⟩
              have hXw := Ext.trans hXw hEn
              go_wp2
              go_roundw
              case rel => exact ⟨5, by omega, by omega, rfl, hXw⟩
              case measure => simp [intOf]
    · have hqe : q = 5 := by omega
      subst hqe
      clear b1_0 b1_1 b1_2 b1_l
      have b1_0 : World.cell? wr ⟨B1, 0, none⟩ = some (.int .u8 1) := b1.cell 0
      have b1_1 : World.cell? wr ⟨B1, 1, none⟩ = some (.int .i64 1) := b1.cell 1
      have b1_2 : World.cell? wr ⟨B1, 2, none⟩ = some (.int .i64 0) := b1.cell 2
      have b1_l := b1.lt
      go_wp2_with fail
      clear b1_0 b1_1 b1_2 b1_l
      have bB := Box.new wr 25 #[.int .u8 0, .int .i64 0, .int .i64 0]
      have hsz : Hid ((World.alloc wr (.cells #[.int .u8 0, .int .i64 0, .int .i64 0] 25)).heap.size = wr.heap.size + 1) := Hid.mk (by simp)
      have hx200 : Ext wr (World.alloc wr (.cells #[.int .u8 0, .int .i64 0, .int .i64 0] 25)) := (Ext.refl _).alloc _
      obtain ⟨w200b, hw200⟩ : ∃ x, World.alloc wr (.cells #[.int .u8 0, .int .i64 0, .int .i64 0] 25) = x := ⟨_, rfl⟩
      rw [hw200] at hsz bB hx200 ⊢
      clear hw200
      replace b1 := b1.ext hx200
      have hF200 := Ext.trans ((Ext.trans hF0 hX)) hx200
      refine (access_Read (l := [⟨0, 0, 0⟩]) 0 (Its.of_boxU bB rfl (by simp [maxLen]) rfl)).mono ?_
      rintro e w202 ⟨v1, u1, rfl, -, -, hZ201⟩
      have hE201 : Ext w200b w202 := Ext.trans (by repeat (first | exact Ext.refl _ | apply Ext.alloc | apply Ext.drew)) hZ201
      replace b1 := b1.ext hE201
      replace bB := bB.ext hE201
      have hF201 := Ext.trans (hF200) hE201
      rw [show chk [⟨0, 0, 0⟩] = 8 from rfl]
      have b1_0 : World.cell? w202 ⟨B1, 0, none⟩ = some (.int .u8 1) := b1.cell 0
      have b1_1 : World.cell? w202 ⟨B1, 1, none⟩ = some (.int .i64 1) := b1.cell 1
      have b1_2 : World.cell? w202 ⟨B1, 2, none⟩ = some (.int .i64 0) := b1.cell 2
      have b1_l := b1.lt
      have bB_0 : World.cell? w202 ⟨wr.heap.size, 0, none⟩ = some (.int .u8 0) := bB.cell 0
      have bB_1 : World.cell? w202 ⟨wr.heap.size, 1, none⟩ = some (.int .i64 0) := bB.cell 1
      have bB_2 : World.cell? w202 ⟨wr.heap.size, 2, none⟩ = some (.int .i64 0) := bB.cell 2
      have bB_l := bB.lt
      go_wp2_with fail
      clear b1_0 b1_1 b1_2 b1_l
      clear bB_0 bB_1 bB_2 bB_l
      refine (access_Write (l := [⟨0, 0, 0⟩]) 0 (Its.of_boxU bB rfl (by simp [maxLen]) rfl)).mono ?_
      rintro e w203 ⟨v2, u2, rfl, -, -, hZ202⟩
      have hE202 : Ext w202 w203 := Ext.trans (by repeat (first | exact Ext.refl _ | apply Ext.alloc | apply Ext.drew)) hZ202
      replace b1 := b1.ext hE202
      replace bB := bB.ext hE202
      have hF202 := Ext.trans (hF201) hE202
      rw [show chk [⟨0, 0, 0⟩] = 8 from rfl]
      have b1_0 : World.cell? w203 ⟨B1, 0, none⟩ = some (.int .u8 1) := b1.cell 0
      have b1_1 : World.cell? w203 ⟨B1, 1, none⟩ = some (.int .i64 1) := b1.cell 1
      have b1_2 : World.cell? w203 ⟨B1, 2, none⟩ = some (.int .i64 0) := b1.cell 2
      have b1_l := b1.lt
      have bB_0 : World.cell? w203 ⟨wr.heap.size, 0, none⟩ = some (.int .u8 0) := bB.cell 0
      have bB_1 : World.cell? w203 ⟨wr.heap.size, 1, none⟩ = some (.int .i64 0) := bB.cell 1
      have bB_2 : World.cell? w203 ⟨wr.heap.size, 2, none⟩ = some (.int .i64 0) := bB.cell 2
      have bB_l := bB.lt
      go_wp2_with fail
      clear b1_0 b1_1 b1_2 b1_l
      clear bB_0 bB_1 bB_2 bB_l
      refine (access_May (l := [⟨0, 0, 0⟩]) 0 true (Its.of_boxU bB rfl (by simp [maxLen]) rfl)).mono ?_
      rintro e w204 ⟨rfl, hZ203⟩
      have hE203 : Ext w203 w204 := Ext.trans (by repeat (first | exact Ext.refl _ | apply Ext.alloc | apply Ext.drew)) hZ203
      replace b1 := b1.ext hE203
      replace bB := bB.ext hE203
      have hF203 := Ext.trans (hF202) hE203
      rw [show chk [⟨0, 0, 0⟩] = 8 from rfl]
      have b1_0 : World.cell? w204 ⟨B1, 0, none⟩ = some (.int .u8 1) := b1.cell 0
      have b1_1 : World.cell? w204 ⟨B1, 1, none⟩ = some (.int .i64 1) := b1.cell 1
      have b1_2 : World.cell? w204 ⟨B1, 2, none⟩ = some (.int .i64 0) := b1.cell 2
      have b1_l := b1.lt
      have bB_0 : World.cell? w204 ⟨wr.heap.size, 0, none⟩ = some (.int .u8 0) := bB.cell 0
      have bB_1 : World.cell? w204 ⟨wr.heap.size, 1, none⟩ = some (.int .i64 0) := bB.cell 1
      have bB_2 : World.cell? w204 ⟨wr.heap.size, 2, none⟩ = some (.int .i64 0) := bB.cell 2
      have bB_l := bB.lt
      go_wp2_with fail
      clear b1_0 b1_1 b1_2 b1_l
      clear bB_0 bB_1 bB_2 bB_l
      have bT := Box.new w204 25 #[.int .u8 1, .int .i64 1, .int .i64 0, .int .u8 3, .int .i64 1, .int .i64 0, .int .u8 4, .int .i64 1, .int .i64 0, .int .u8 1, .int .i64 9, .int .i64 0]
      have hsz : Hid ((World.alloc w204 (.cells #[.int .u8 1, .int .i64 1, .int .i64 0, .int .u8 3, .int .i64 1, .int .i64 0, .int .u8 4, .int .i64 1, .int .i64 0, .int .u8 1, .int .i64 9, .int .i64 0] 25)).heap.size = w204.heap.size + 1) := Hid.mk (by simp)
      have hx204 : Ext w204 (World.alloc w204 (.cells #[.int .u8 1, .int .i64 1, .int .i64 0, .int .u8 3, .int .i64 1, .int .i64 0, .int .u8 4, .int .i64 1, .int .i64 0, .int .u8 1, .int .i64 9, .int .i64 0] 25)) := (Ext.refl _).alloc _
      obtain ⟨w204b, hw204⟩ : ∃ x, World.alloc w204 (.cells #[.int .u8 1, .int .i64 1, .int .i64 0, .int .u8 3, .int .i64 1, .int .i64 0, .int .u8 4, .int .i64 1, .int .i64 0, .int .u8 1, .int .i64 9, .int .i64 0] 25) = x := ⟨_, rfl⟩
      rw [hw204] at hsz bT hx204 ⊢
      clear hw204
      replace b1 := b1.ext hx204
      replace bB := bB.ext hx204
      have hF204 := Ext.trans (hF203) hx204
      refine (access_May (l := tw29) 9 true (Its.of_boxU (n := 4) bT rfl (by simp [maxLen]) rfl)).mono ?_
      rintro e w206 ⟨rfl, hZ205⟩
      have hE205 : Ext w204b w206 := Ext.trans (by repeat (first | exact Ext.refl _ | apply Ext.alloc | apply Ext.drew)) hZ205
      replace b1 := b1.ext hE205
      replace bB := bB.ext hE205
      replace bT := bT.ext hE205
      have hF205 := Ext.trans (hF204) hE205
      rw [show mayB tw29 9 true = true from by decide, show chk tw29 = 0 from by decide]
      have b1_0 : World.cell? w206 ⟨B1, 0, none⟩ = some (.int .u8 1) := b1.cell 0
      have b1_1 : World.cell? w206 ⟨B1, 1, none⟩ = some (.int .i64 1) := b1.cell 1
      have b1_2 : World.cell? w206 ⟨B1, 2, none⟩ = some (.int .i64 0) := b1.cell 2
      have b1_l := b1.lt
      have bB_0 : World.cell? w206 ⟨wr.heap.size, 0, none⟩ = some (.int .u8 0) := bB.cell 0
      have bB_1 : World.cell? w206 ⟨wr.heap.size, 1, none⟩ = some (.int .i64 0) := bB.cell 1
      have bB_2 : World.cell? w206 ⟨wr.heap.size, 2, none⟩ = some (.int .i64 0) := bB.cell 2
      have bB_l := bB.lt
      have bT_0 : World.cell? w206 ⟨w204.heap.size, 0, none⟩ = some (.int .u8 1) := bT.cell 0
      have bT_1 : World.cell? w206 ⟨w204.heap.size, 1, none⟩ = some (.int .i64 1) := bT.cell 1
      have bT_2 : World.cell? w206 ⟨w204.heap.size, 2, none⟩ = some (.int .i64 0) := bT.cell 2
      have bT_3 : World.cell? w206 ⟨w204.heap.size, 3, none⟩ = some (.int .u8 3) := bT.cell 3
      have bT_4 : World.cell? w206 ⟨w204.heap.size, 4, none⟩ = some (.int .i64 1) := bT.cell 4
      have bT_5 : World.cell? w206 ⟨w204.heap.size, 5, none⟩ = some (.int .i64 0) := bT.cell 5
      have bT_6 : World.cell? w206 ⟨w204.heap.size, 6, none⟩ = some (.int .u8 4) := bT.cell 6
      have bT_7 : World.cell? w206 ⟨w204.heap.size, 7, none⟩ = some (.int .i64 1) := bT.cell 7
      have bT_8 : World.cell? w206 ⟨w204.heap.size, 8, none⟩ = some (.int .i64 0) := bT.cell 8
      have bT_9 : World.cell? w206 ⟨w204.heap.size, 9, none⟩ = some (.int .u8 1) := bT.cell 9
      have bT_10 : World.cell? w206 ⟨w204.heap.size, 10, none⟩ = some (.int .i64 9) := bT.cell 10
      have bT_11 : World.cell? w206 ⟨w204.heap.size, 11, none⟩ = some (.int .i64 0) := bT.cell 11
      have bT_l := bT.lt
      go_wp2_with fail
      clear b1_0 b1_1 b1_2 b1_l
      clear bB_0 bB_1 bB_2 bB_l
      clear bT_0 bT_1 bT_2 bT_3 bT_4 bT_5 bT_6 bT_7 bT_8 bT_9 bT_10 bT_11 bT_l
      refine (access_May (l := tw29) 8 false (Its.of_boxU (n := 4) bT rfl (by simp [maxLen]) rfl)).mono ?_
      rintro e w207 ⟨rfl, hZ206⟩
      have hE206 : Ext w206 w207 := Ext.trans (by repeat (first | exact Ext.refl _ | apply Ext.alloc | apply Ext.drew)) hZ206
      replace b1 := b1.ext hE206
      replace bB := bB.ext hE206
      replace bT := bT.ext hE206
      have hF206 := Ext.trans (hF205) hE206
      rw [show mayB tw29 8 false = false from by decide, show chk tw29 = 0 from by decide]
      have hT : Its w207 (.slice (some ⟨w204.heap.size, 0, none⟩) 4 4) tw29 := Its.of_boxU (n := 4) bT rfl (by simp [maxLen]) rfl
      have hT2 : Its w207 (.slice (some ⟨w204.heap.size, 0, none⟩) 2 4) (tw29.take 2) := hT.take 2 (by decide)
      have hT3 : Its w207 (.slice (some ⟨w204.heap.size, 0, none⟩) 3 4) (tw29.take 3) := hT.take 3 (by decide)
      have b1_0 : World.cell? w207 ⟨B1, 0, none⟩ = some (.int .u8 1) := b1.cell 0
      have b1_1 : World.cell? w207 ⟨B1, 1, none⟩ = some (.int .i64 1) := b1.cell 1
      have b1_2 : World.cell? w207 ⟨B1, 2, none⟩ = some (.int .i64 0) := b1.cell 2
      have b1_l := b1.lt
      have bB_0 : World.cell? w207 ⟨wr.heap.size, 0, none⟩ = some (.int .u8 0) := bB.cell 0
      have bB_1 : World.cell? w207 ⟨wr.heap.size, 1, none⟩ = some (.int .i64 0) := bB.cell 1
      have bB_2 : World.cell? w207 ⟨wr.heap.size, 2, none⟩ = some (.int .i64 0) := bB.cell 2
      have bB_l := bB.lt
      have bT_0 : World.cell? w207 ⟨w204.heap.size, 0, none⟩ = some (.int .u8 1) := bT.cell 0
      have bT_1 : World.cell? w207 ⟨w204.heap.size, 1, none⟩ = some (.int .i64 1) := bT.cell 1
      have bT_2 : World.cell? w207 ⟨w204.heap.size, 2, none⟩ = some (.int .i64 0) := bT.cell 2
      have bT_3 : World.cell? w207 ⟨w204.heap.size, 3, none⟩ = some (.int .u8 3) := bT.cell 3
      have bT_4 : World.cell? w207 ⟨w204.heap.size, 4, none⟩ = some (.int .i64 1) := bT.cell 4
      have bT_5 : World.cell? w207 ⟨w204.heap.size, 5, none⟩ = some (.int .i64 0) := bT.cell 5
      have bT_6 : World.cell? w207 ⟨w204.heap.size, 6, none⟩ = some (.int .u8 4) := bT.cell 6
      have bT_7 : World.cell? w207 ⟨w204.heap.size, 7, none⟩ = some (.int .i64 1) := bT.cell 7
      have bT_8 : World.cell? w207 ⟨w204.heap.size, 8, none⟩ = some (.int .i64 0) := bT.cell 8
      have bT_9 : World.cell? w207 ⟨w204.heap.size, 9, none⟩ = some (.int .u8 1) := bT.cell 9
      have bT_10 : World.cell? w207 ⟨w204.heap.size, 10, none⟩ = some (.int .i64 9) := bT.cell 10
      have bT_11 : World.cell? w207 ⟨w204.heap.size, 11, none⟩ = some (.int .i64 0) := bT.cell 11
      have bT_l := bT.lt
      go_wp2
      clear b1_0 b1_1 b1_2 b1_l
      clear bB_0 bB_1 bB_2 bB_l
      clear bT_0 bT_1 bT_2 bT_3 bT_4 bT_5 bT_6 bT_7 bT_8 bT_9 bT_10 bT_11 bT_l
      have b1_0 : World.cell? w207 ⟨B1, 0, none⟩ = some (.int .u8 1) := b1.cell 0
      have b1_1 : World.cell? w207 ⟨B1, 1, none⟩ = some (.int .i64 1) := b1.cell 1
      have b1_2 : World.cell? w207 ⟨B1, 2, none⟩ = some (.int .i64 0) := b1.cell 2
      have b1_l := b1.lt
      have bB_0 : World.cell? w207 ⟨wr.heap.size, 0, none⟩ = some (.int .u8 0) := bB.cell 0
      have bB_1 : World.cell? w207 ⟨wr.heap.size, 1, none⟩ = some (.int .i64 0) := bB.cell 1
      have bB_2 : World.cell? w207 ⟨wr.heap.size, 2, none⟩ = some (.int .i64 0) := bB.cell 2
      have bB_l := bB.lt
      have bT_0 : World.cell? w207 ⟨w204.heap.size, 0, none⟩ = some (.int .u8 1) := bT.cell 0
      have bT_1 : World.cell? w207 ⟨w204.heap.size, 1, none⟩ = some (.int .i64 1) := bT.cell 1
      have bT_2 : World.cell? w207 ⟨w204.heap.size, 2, none⟩ = some (.int .i64 0) := bT.cell 2
      have bT_3 : World.cell? w207 ⟨w204.heap.size, 3, none⟩ = some (.int .u8 3) := bT.cell 3
      have bT_4 : World.cell? w207 ⟨w204.heap.size, 4, none⟩ = some (.int .i64 1) := bT.cell 4
      have bT_5 : World.cell? w207 ⟨w204.heap.size, 5, none⟩ = some (.int .i64 0) := bT.cell 5
      have bT_6 : World.cell? w207 ⟨w204.heap.size, 6, none⟩ = some (.int .u8 4) := bT.cell 6
      have bT_7 : World.cell? w207 ⟨w204.heap.size, 7, none⟩ = some (.int .i64 1) := bT.cell 7
      have bT_8 : World.cell? w207 ⟨w204.heap.size, 8, none⟩ = some (.int .i64 0) := bT.cell 8
      have bT_9 : World.cell? w207 ⟨w204.heap.size, 9, none⟩ = some (.int .u8 1) := bT.cell 9
      have bT_10 : World.cell? w207 ⟨w204.heap.size, 10, none⟩ = some (.int .i64 9) := bT.cell 10
      have bT_11 : World.cell? w207 ⟨w204.heap.size, 11, none⟩ = some (.int .i64 0) := bT.cell 11
      have bT_l := bT.lt
      refine wp_region_go (L := [Pr.eq (.bool true), Pr.eq (.bool true), Pr.eq (.int .i64 8), Pr.eq (.bool true), Pr.eq (.bool true), Pr.eq (.bool true), Pr.eq (.int .i64 8), Pr.eq (.bool true), Pr.eq (.bool true), Pr.eq (.bool true), Pr.eq (.int .i64 8), Pr.eq (.bool true), Pr.eq (.bool true), Pr.eq (.bool true), Pr.eq (.bool true), Pr.eq (.bool true), Pr.eq (.bool true), Pr.eq (.bool true), Pr.eq (.bool true), Pr.eq (.bool true), Pr.eq (.slice (some ⟨w204.heap.size, 0, none⟩) 4 4), Pr.eq (.slice (some ⟨w204.heap.size, 0, none⟩) 4 4), Pr.eq (.slice (some ⟨w204.heap.size, 0, none⟩) 2 4), Pr.eq (.slice (some ⟨w204.heap.size, 0, none⟩) 4 4), Pr.eq (.pointer (some ⟨w204.heap.size, 6, none⟩)), Pr.eq (.agg #[.int .u8 4, .int .i64 1, .int .i64 0]), Pr.eq (.slice (some ⟨w204.heap.size, 0, none⟩) 4 4), Pr.eq (.pointer (some ⟨w204.heap.size, 9, none⟩)), Pr.eq (.agg #[.int .u8 1, .int .i64 9, .int .i64 0]), PrI [⟨4, 1, 0⟩, ⟨1, 9, 0⟩], Pr.eq (.bool true), Pr.eq (.bool true), Pr.eq (.bool true), Pr.eq (.slice (some ⟨w204.heap.size, 0, none⟩) 4 4), Pr.eq (.slice (some ⟨w204.heap.size, 0, none⟩) 4 4), Pr.eq (.slice (some ⟨w204.heap.size, 0, none⟩) 3 4), Pr.eq (.slice (some ⟨w204.heap.size, 0, none⟩) 4 4), Pr.eq (.pointer (some ⟨w204.heap.size, 9, none⟩)), Pr.eq (.agg #[.int .u8 1, .int .i64 9, .int .i64 0]), PrI [⟨1, 9, 0⟩], Pr.eq (.bool true), Pr.eq (.bool true), Pr.eq (.bool true), Pr.eq (.int .i64 0), Pr.eq (.bool true), Pr.eq (.bool true), Pr.eq (.bool true), Pr.eq (.bool true), Pr.eq (.bool true), Pr.eq (.bool true), Pr.eq (.int .i64 0), Pr.eq (.bool true), Pr.eq (.bool true), Pr.eq (.bool true), Pr.eq (.bool false), Pr.eq (.bool true), Pr.eq (.bool true), Pr.eq (.bool true)]) (by kernel_rfl) (by kernel_rfl) ?_ ?_
      · refine ⟨?_, ?_, ?_, ?_, ?_, ?_, ?_, ?_, ?_, ?_, ?_, ?_, ?_, ?_, ?_, ?_, ?_, ?_, ?_, ?_, ?_, ?_, ?_, ?_, ?_, ?_, ?_, ?_, ?_, ?_, ?_, ?_, ?_, ?_, ?_, ?_, ?_, ?_, ?_, ?_, ?_, ?_, ?_, ?_, ?_, ?_, ?_, ?_, ?_, ?_, ?_, ?_, ?_, ?_, ?_, ?_, ?_, ?_, trivial⟩
        · intro a w hE hd ho
          refine .inl ⟨rfl, ?_⟩
          intro K hK
          have hF : Ext w207 w := Ext.trans ((Ext.refl _).drew) hE
          clear bT_0 bT_1 bT_2 bT_3 bT_4 bT_5 bT_6 bT_7 bT_8 bT_9 bT_10 bT_11
          clear hd ho
          replace hK := Lib.hid hK
          go_simp
          refine (law29_alive _).mono ?_
          rintro e wz ⟨rfl, hZ⟩
          go_simp
          exact hK.out _ _ rfl hZ
        · intro a w hE hd ho
          refine .inl ⟨rfl, ?_⟩
          intro K hK
          have hF : Ext w207 w := Ext.trans ((Ext.refl _).drew) hE
          have e114 : a.eval (.tmp 114) = .bool true := hd 0 (by kernel_rfl)
          rw [eval_tmp] at e114
          clear bT_0 bT_1 bT_2 bT_3 bT_4 bT_5 bT_6 bT_7 bT_8 bT_9 bT_10 bT_11
          clear hd ho
          replace hK := Lib.hid hK
          go_simp
          exact hK.out _ _ rfl (Ext.refl _)
        · intro a w hE hd ho
          refine .inl ⟨wanted_by 115 rfl rfl (hd 1 (by kernel_rfl)), ?_⟩
          intro K hK
          have hF : Ext w207 w := Ext.trans ((Ext.refl _).drew) hE
          have e11 : a.eval (.tmp 11) = .int .i64 8 := ho 11 (by kernel_rfl)
          rw [eval_tmp] at e11
          clear bT_0 bT_1 bT_2 bT_3 bT_4 bT_5 bT_6 bT_7 bT_8 bT_9 bT_10 bT_11
          clear hd ho
          replace hK := Lib.hid hK
          go_simp
          exact hK.out _ _ rfl (Ext.refl _)
        · intro a w hE hd ho
          refine .inl ⟨wanted_by 115 rfl rfl (hd 1 (by kernel_rfl)), ?_⟩
          intro K hK
          have hF : Ext w207 w := Ext.trans ((Ext.refl _).drew) hE
          have e116 : a.eval (.tmp 116) = .int .i64 8 := hd 2 (by kernel_rfl)
          rw [eval_tmp] at e116
          clear bT_0 bT_1 bT_2 bT_3 bT_4 bT_5 bT_6 bT_7 bT_8 bT_9 bT_10 bT_11
          clear hd ho
          replace hK := Lib.hid hK
          go_simp
          exact hK.out _ _ rfl (Ext.refl _)
        · intro a w hE hd ho
          refine .inl ⟨rfl, ?_⟩
          intro K hK
          have hF : Ext w207 w := Ext.trans ((Ext.refl _).drew) hE
          have e115 : a.eval (.tmp 115) = .bool true := hd 1 (by kernel_rfl)
          rw [eval_tmp] at e115
          have e117 : a.eval (.tmp 117) = .bool true := hd 3 (by kernel_rfl)
          rw [eval_tmp] at e117
          clear bT_0 bT_1 bT_2 bT_3 bT_4 bT_5 bT_6 bT_7 bT_8 bT_9 bT_10 bT_11
          clear hd ho
          replace hK := Lib.hid hK
          go_simp
          exact hK.out _ _ rfl (Ext.refl _)
        · intro a w hE hd ho
          refine .inl ⟨rfl, ?_⟩
          intro K hK
          have hF : Ext w207 w := Ext.trans ((Ext.refl _).drew) hE
          have e118 : a.eval (.tmp 118) = .bool true := hd 4 (by kernel_rfl)
          rw [eval_tmp] at e118
          clear bT_0 bT_1 bT_2 bT_3 bT_4 bT_5 bT_6 bT_7 bT_8 bT_9 bT_10 bT_11
          clear hd ho
          replace hK := Lib.hid hK
          go_simp
          exact hK.out _ _ rfl (Ext.refl _)
        · intro a w hE hd ho
          refine .inl ⟨wanted_by 119 rfl rfl (hd 5 (by kernel_rfl)), ?_⟩
          intro K hK
          have hF : Ext w207 w := Ext.trans ((Ext.refl _).drew) hE
          have e15 : a.eval (.tmp 15) = .int .i64 8 := ho 15 (by kernel_rfl)
          rw [eval_tmp] at e15
          clear bT_0 bT_1 bT_2 bT_3 bT_4 bT_5 bT_6 bT_7 bT_8 bT_9 bT_10 bT_11
          clear hd ho
          replace hK := Lib.hid hK
          go_simp
          exact hK.out _ _ rfl (Ext.refl _)
        · intro a w hE hd ho
          refine .inl ⟨wanted_by 119 rfl rfl (hd 5 (by kernel_rfl)), ?_⟩
          intro K hK
          have hF : Ext w207 w := Ext.trans ((Ext.refl _).drew) hE
          have e120 : a.eval (.tmp 120) = .int .i64 8 := hd 6 (by kernel_rfl)
          rw [eval_tmp] at e120
          clear bT_0 bT_1 bT_2 bT_3 bT_4 bT_5 bT_6 bT_7 bT_8 bT_9 bT_10 bT_11
          clear hd ho
          replace hK := Lib.hid hK
          go_simp
          exact hK.out _ _ rfl (Ext.refl _)
        · intro a w hE hd ho
          refine .inl ⟨rfl, ?_⟩
          intro K hK
          have hF : Ext w207 w := Ext.trans ((Ext.refl _).drew) hE
          have e119 : a.eval (.tmp 119) = .bool true := hd 5 (by kernel_rfl)
          rw [eval_tmp] at e119
          have e121 : a.eval (.tmp 121) = .bool true := hd 7 (by kernel_rfl)
          rw [eval_tmp] at e121
          clear bT_0 bT_1 bT_2 bT_3 bT_4 bT_5 bT_6 bT_7 bT_8 bT_9 bT_10 bT_11
          clear hd ho
          replace hK := Lib.hid hK
          go_simp
          exact hK.out _ _ rfl (Ext.refl _)
        · intro a w hE hd ho
          refine .inl ⟨rfl, ?_⟩
          intro K hK
          have hF : Ext w207 w := Ext.trans ((Ext.refl _).drew) hE
          have e122 : a.eval (.tmp 122) = .bool true := hd 8 (by kernel_rfl)
          rw [eval_tmp] at e122
          clear bT_0 bT_1 bT_2 bT_3 bT_4 bT_5 bT_6 bT_7 bT_8 bT_9 bT_10 bT_11
          clear hd ho
          replace hK := Lib.hid hK
          go_simp
          exact hK.out _ _ rfl (Ext.refl _)
        · intro a w hE hd ho
          refine .inl ⟨wanted_by 123 rfl rfl (hd 9 (by kernel_rfl)), ?_⟩
          intro K hK
          have hF : Ext w207 w := Ext.trans ((Ext.refl _).drew) hE
          have e17 : a.eval (.tmp 17) = .int .i64 8 := ho 17 (by kernel_rfl)
          rw [eval_tmp] at e17
          clear bT_0 bT_1 bT_2 bT_3 bT_4 bT_5 bT_6 bT_7 bT_8 bT_9 bT_10 bT_11
          clear hd ho
          replace hK := Lib.hid hK
          go_simp
          exact hK.out _ _ rfl (Ext.refl _)
        · intro a w hE hd ho
          refine .inl ⟨wanted_by 123 rfl rfl (hd 9 (by kernel_rfl)), ?_⟩
          intro K hK
          have hF : Ext w207 w := Ext.trans ((Ext.refl _).drew) hE
          have e124 : a.eval (.tmp 124) = .int .i64 8 := hd 10 (by kernel_rfl)
          rw [eval_tmp] at e124
          clear bT_0 bT_1 bT_2 bT_3 bT_4 bT_5 bT_6 bT_7 bT_8 bT_9 bT_10 bT_11
          clear hd ho
          replace hK := Lib.hid hK
          go_simp
          exact hK.out _ _ rfl (Ext.refl _)
        · intro a w hE hd ho
          refine .inl ⟨rfl, ?_⟩
          intro K hK
          have hF : Ext w207 w := Ext.trans ((Ext.refl _).drew) hE
          have e123 : a.eval (.tmp 123) = .bool true := hd 9 (by kernel_rfl)
          rw [eval_tmp] at e123
          have e125 : a.eval (.tmp 125) = .bool true := hd 11 (by kernel_rfl)
          rw [eval_tmp] at e125
          clear bT_0 bT_1 bT_2 bT_3 bT_4 bT_5 bT_6 bT_7 bT_8 bT_9 bT_10 bT_11
          clear hd ho
          replace hK := Lib.hid hK
          go_simp
          exact hK.out _ _ rfl (Ext.refl _)
        · intro a w hE hd ho
          refine .inl ⟨rfl, ?_⟩
          intro K hK
          have hF : Ext w207 w := Ext.trans ((Ext.refl _).drew) hE
          have e126 : a.eval (.tmp 126) = .bool true := hd 12 (by kernel_rfl)
          rw [eval_tmp] at e126
          clear bT_0 bT_1 bT_2 bT_3 bT_4 bT_5 bT_6 bT_7 bT_8 bT_9 bT_10 bT_11
          clear hd ho
          replace hK := Lib.hid hK
          go_simp
          exact hK.out _ _ rfl (Ext.refl _)
        · intro a w hE hd ho
          refine .inl ⟨wanted_by 127 rfl rfl (hd 13 (by kernel_rfl)), ?_⟩
          intro K hK
          have hF : Ext w207 w := Ext.trans ((Ext.refl _).drew) hE
          clear bT_0 bT_1 bT_2 bT_3 bT_4 bT_5 bT_6 bT_7 bT_8 bT_9 bT_10 bT_11
          clear hd ho
          replace hK := Lib.hid hK
          go_simp
          refine (law29_none 0 false (Its.nil _) (l29_g false)).mono ?_
          rintro e wz ⟨rfl, hZ⟩
          go_simp
          exact hK.out _ _ rfl hZ
        · intro a w hE hd ho
          refine .inl ⟨rfl, ?_⟩
          intro K hK
          have hF : Ext w207 w := Ext.trans ((Ext.refl _).drew) hE
          have e127 : a.eval (.tmp 127) = .bool true := hd 13 (by kernel_rfl)
          rw [eval_tmp] at e127
          have e128 : a.eval (.tmp 128) = .bool true := hd 14 (by kernel_rfl)
          rw [eval_tmp] at e128
          clear bT_0 bT_1 bT_2 bT_3 bT_4 bT_5 bT_6 bT_7 bT_8 bT_9 bT_10 bT_11
          clear hd ho
          replace hK := Lib.hid hK
          go_simp
          exact hK.out _ _ rfl (Ext.refl _)
        · intro a w hE hd ho
          refine .inl ⟨rfl, ?_⟩
          intro K hK
          have hF : Ext w207 w := Ext.trans ((Ext.refl _).drew) hE
          have e129 : a.eval (.tmp 129) = .bool true := hd 15 (by kernel_rfl)
          rw [eval_tmp] at e129
          clear bT_0 bT_1 bT_2 bT_3 bT_4 bT_5 bT_6 bT_7 bT_8 bT_9 bT_10 bT_11
          clear hd ho
          replace hK := Lib.hid hK
          go_simp
          exact hK.out _ _ rfl (Ext.refl _)
        · intro a w hE hd ho
          refine .inl ⟨wanted_by 130 rfl rfl (hd 16 (by kernel_rfl)), ?_⟩
          intro K hK
          have hF : Ext w207 w := Ext.trans ((Ext.refl _).drew) hE
          clear bT_0 bT_1 bT_2 bT_3 bT_4 bT_5 bT_6 bT_7 bT_8 bT_9 bT_10 bT_11
          clear hd ho
          replace hK := Lib.hid hK
          go_simp
          refine (law29_none 0 true (Its.nil _) (l29_g true)).mono ?_
          rintro e wz ⟨rfl, hZ⟩
          go_simp
          exact hK.out _ _ rfl hZ
        · intro a w hE hd ho
          refine .inl ⟨rfl, ?_⟩
          intro K hK
          have hF : Ext w207 w := Ext.trans ((Ext.refl _).drew) hE
          have e130 : a.eval (.tmp 130) = .bool true := hd 16 (by kernel_rfl)
          rw [eval_tmp] at e130
          have e131 : a.eval (.tmp 131) = .bool true := hd 17 (by kernel_rfl)
          rw [eval_tmp] at e131
          clear bT_0 bT_1 bT_2 bT_3 bT_4 bT_5 bT_6 bT_7 bT_8 bT_9 bT_10 bT_11
          clear hd ho
          replace hK := Lib.hid hK
          go_simp
          exact hK.out _ _ rfl (Ext.refl _)
        · intro a w hE hd ho
          refine .inl ⟨rfl, ?_⟩
          intro K hK
          have hF : Ext w207 w := Ext.trans ((Ext.refl _).drew) hE
          have e132 : a.eval (.tmp 132) = .bool true := hd 18 (by kernel_rfl)
          rw [eval_tmp] at e132
          clear bT_0 bT_1 bT_2 bT_3 bT_4 bT_5 bT_6 bT_7 bT_8 bT_9 bT_10 bT_11
          clear hd ho
          replace hK := Lib.hid hK
          go_simp
          exact hK.out _ _ rfl (Ext.refl _)
        · intro a w hE hd ho
          refine .inl ⟨wanted_by 133 rfl rfl (hd 19 (by kernel_rfl)), ?_⟩
          intro K hK
          have hF : Ext w207 w := Ext.trans ((Ext.refl _).drew) hE
          have e18 : a.eval (.tmp 18) = .slice (some ⟨w204.heap.size, 0, none⟩) 4 4 := ho 18 (by kernel_rfl)
          rw [eval_tmp] at e18
          clear bT_0 bT_1 bT_2 bT_3 bT_4 bT_5 bT_6 bT_7 bT_8 bT_9 bT_10 bT_11
          clear hd ho
          replace hK := Lib.hid hK
          go_simp
          exact hK.out _ _ rfl (Ext.refl _)
        · intro a w hE hd ho
          refine .inl ⟨wanted_by 133 rfl rfl (hd 19 (by kernel_rfl)), ?_⟩
          intro K hK
          have hF : Ext w207 w := Ext.trans ((Ext.refl _).drew) hE
          have e18 : a.eval (.tmp 18) = .slice (some ⟨w204.heap.size, 0, none⟩) 4 4 := ho 18 (by kernel_rfl)
          rw [eval_tmp] at e18
          clear bT_0 bT_1 bT_2 bT_3 bT_4 bT_5 bT_6 bT_7 bT_8 bT_9 bT_10 bT_11
          clear hd ho
          replace hK := Lib.hid hK
          go_simp
          exact hK.out _ _ rfl (Ext.refl _)
        · intro a w hE hd ho
          refine .inl ⟨wanted_by 133 rfl rfl (hd 19 (by kernel_rfl)), ?_⟩
          intro K hK
          have hF : Ext w207 w := Ext.trans ((Ext.refl _).drew) hE
          have e135 : a.eval (.tmp 135) = .slice (some ⟨w204.heap.size, 0, none⟩) 4 4 := hd 21 (by kernel_rfl)
          rw [eval_tmp] at e135
          clear bT_0 bT_1 bT_2 bT_3 bT_4 bT_5 bT_6 bT_7 bT_8 bT_9 bT_10 bT_11
          clear hd ho
          replace hK := Lib.hid hK
          go_simp
          exact hK.out _ _ rfl (Ext.refl _)
        · intro a w hE hd ho
          refine .inl ⟨wanted_by 133 rfl rfl (hd 19 (by kernel_rfl)), ?_⟩
          intro K hK
          have hF : Ext w207 w := Ext.trans ((Ext.refl _).drew) hE
          have e18 : a.eval (.tmp 18) = .slice (some ⟨w204.heap.size, 0, none⟩) 4 4 := ho 18 (by kernel_rfl)
          rw [eval_tmp] at e18
          clear bT_0 bT_1 bT_2 bT_3 bT_4 bT_5 bT_6 bT_7 bT_8 bT_9 bT_10 bT_11
          clear hd ho
          replace hK := Lib.hid hK
          go_simp
          exact hK.out _ _ rfl (Ext.refl _)
        · intro a w hE hd ho
          refine .inl ⟨wanted_by 133 rfl rfl (hd 19 (by kernel_rfl)), ?_⟩
          intro K hK
          have hF : Ext w207 w := Ext.trans ((Ext.refl _).drew) hE
          have e137 : a.eval (.tmp 137) = .slice (some ⟨w204.heap.size, 0, none⟩) 4 4 := hd 23 (by kernel_rfl)
          rw [eval_tmp] at e137
          clear bT_0 bT_1 bT_2 bT_3 bT_4 bT_5 bT_6 bT_7 bT_8 bT_9 bT_10 bT_11
          clear hd ho
          replace hK := Lib.hid hK
          go_simp
          exact hK.out _ _ rfl (Ext.refl _)
        · intro a w hE hd ho
          refine .inl ⟨wanted_by 133 rfl rfl (hd 19 (by kernel_rfl)), ?_⟩
          intro K hK
          have hF : Ext w207 w := Ext.trans ((Ext.refl _).drew) hE
          have e138 : a.eval (.tmp 138) = .pointer (some ⟨w204.heap.size, 6, none⟩) := hd 24 (by kernel_rfl)
          rw [eval_tmp] at e138
          have bT_6w := Ext.cell hF bT_6
          have bT_7w := Ext.cell hF bT_7
          have bT_8w := Ext.cell hF bT_8
          clear bT_0 bT_1 bT_2 bT_3 bT_4 bT_5 bT_6 bT_7 bT_8 bT_9 bT_10 bT_11
          clear hd ho
          replace hK := Lib.hid hK
          go_simp
          exact hK.out _ _ rfl (Ext.refl _)
        · intro a w hE hd ho
          refine .inl ⟨wanted_by 133 rfl rfl (hd 19 (by kernel_rfl)), ?_⟩
          intro K hK
          have hF : Ext w207 w := Ext.trans ((Ext.refl _).drew) hE
          have e18 : a.eval (.tmp 18) = .slice (some ⟨w204.heap.size, 0, none⟩) 4 4 := ho 18 (by kernel_rfl)
          rw [eval_tmp] at e18
          clear bT_0 bT_1 bT_2 bT_3 bT_4 bT_5 bT_6 bT_7 bT_8 bT_9 bT_10 bT_11
          clear hd ho
          replace hK := Lib.hid hK
          go_simp
          exact hK.out _ _ rfl (Ext.refl _)
        · intro a w hE hd ho
          refine .inl ⟨wanted_by 133 rfl rfl (hd 19 (by kernel_rfl)), ?_⟩
          intro K hK
          have hF : Ext w207 w := Ext.trans ((Ext.refl _).drew) hE
          have e140 : a.eval (.tmp 140) = .slice (some ⟨w204.heap.size, 0, none⟩) 4 4 := hd 26 (by kernel_rfl)
          rw [eval_tmp] at e140
          clear bT_0 bT_1 bT_2 bT_3 bT_4 bT_5 bT_6 bT_7 bT_8 bT_9 bT_10 bT_11
          clear hd ho
          replace hK := Lib.hid hK
          go_simp
          exact hK.out _ _ rfl (Ext.refl _)
        · intro a w hE hd ho
          refine .inl ⟨wanted_by 133 rfl rfl (hd 19 (by kernel_rfl)), ?_⟩
          intro K hK
          have hF : Ext w207 w := Ext.trans ((Ext.refl _).drew) hE
          have e141 : a.eval (.tmp 141) = .pointer (some ⟨w204.heap.size, 9, none⟩) := hd 27 (by kernel_rfl)
          rw [eval_tmp] at e141
          have bT_9w := Ext.cell hF bT_9
          have bT_10w := Ext.cell hF bT_10
          have bT_11w := Ext.cell hF bT_11
          clear bT_0 bT_1 bT_2 bT_3 bT_4 bT_5 bT_6 bT_7 bT_8 bT_9 bT_10 bT_11
          clear hd ho
          replace hK := Lib.hid hK
          go_simp
          exact hK.out _ _ rfl (Ext.refl _)
        · intro a w hE hd ho
          refine .inl ⟨wanted_by 133 rfl rfl (hd 19 (by kernel_rfl)), ?_⟩
          intro K hK
          have hF : Ext w207 w := Ext.trans ((Ext.refl _).drew) hE
          have e139 : a.eval (.tmp 139) = .agg #[.int .u8 4, .int .i64 1, .int .i64 0] := hd 25 (by kernel_rfl)
          rw [eval_tmp] at e139
          have e142 : a.eval (.tmp 142) = .agg #[.int .u8 1, .int .i64 9, .int .i64 0] := hd 28 (by kernel_rfl)
          rw [eval_tmp] at e142
          clear bT_0 bT_1 bT_2 bT_3 bT_4 bT_5 bT_6 bT_7 bT_8 bT_9 bT_10 bT_11
          clear hd ho
          replace hK := Lib.hid hK
          go_simp
          exact hK.out _ _ (Its.lit w _ [⟨4, 1, 0⟩, ⟨1, 9, 0⟩] _ _ rfl rfl (by simp [maxLen]) rfl) ((Ext.refl _).alloc _)
        · intro a w hE hd ho
          refine .inl ⟨wanted_by 133 rfl rfl (hd 19 (by kernel_rfl)), ?_⟩
          intro K hK
          have hF : Ext w207 w := Ext.trans ((Ext.refl _).drew) hE
          have e134 : a.eval (.tmp 134) = .slice (some ⟨w204.heap.size, 0, none⟩) 4 4 := hd 20 (by kernel_rfl)
          rw [eval_tmp] at e134
          have e136 : a.eval (.tmp 136) = .slice (some ⟨w204.heap.size, 0, none⟩) 2 4 := hd 22 (by kernel_rfl)
          rw [eval_tmp] at e136
          have h143 : Its w (a.eval (.tmp 143)) [⟨4, 1, 0⟩, ⟨1, 9, 0⟩] := hd 29 (by kernel_rfl)
          obtain ⟨xa143, xc143, e143, xl143, -⟩ := h143.form
          rw [e143] at h143
          rw [eval_tmp] at e143
          clear bT_0 bT_1 bT_2 bT_3 bT_4 bT_5 bT_6 bT_7 bT_8 bT_9 bT_10 bT_11
          clear hd ho
          replace hK := Lib.hid hK
          go_simp
          refine (law29_leaves 1 true (l := tw29) (hT.ext hF) (hT2.ext hF) h143 l29_e).mono ?_
          rintro e wz ⟨rfl, hZ⟩
          go_simp
          exact hK.out _ _ rfl hZ
        · intro a w hE hd ho
          refine .inl ⟨rfl, ?_⟩
          intro K hK
          have hF : Ext w207 w := Ext.trans ((Ext.refl _).drew) hE
          have e133 : a.eval (.tmp 133) = .bool true := hd 19 (by kernel_rfl)
          rw [eval_tmp] at e133
          have e144 : a.eval (.tmp 144) = .bool true := hd 30 (by kernel_rfl)
          rw [eval_tmp] at e144
          clear bT_0 bT_1 bT_2 bT_3 bT_4 bT_5 bT_6 bT_7 bT_8 bT_9 bT_10 bT_11
          clear hd ho
          replace hK := Lib.hid hK
          go_simp
          exact hK.out _ _ rfl (Ext.refl _)
        · intro a w hE hd ho
          refine .inl ⟨rfl, ?_⟩
          intro K hK
          have hF : Ext w207 w := Ext.trans ((Ext.refl _).drew) hE
          have e145 : a.eval (.tmp 145) = .bool true := hd 31 (by kernel_rfl)
          rw [eval_tmp] at e145
          clear bT_0 bT_1 bT_2 bT_3 bT_4 bT_5 bT_6 bT_7 bT_8 bT_9 bT_10 bT_11
          clear hd ho
          replace hK := Lib.hid hK
          go_simp
          exact hK.out _ _ rfl (Ext.refl _)
        · intro a w hE hd ho
          refine .inl ⟨wanted_by 146 rfl rfl (hd 32 (by kernel_rfl)), ?_⟩
          intro K hK
          have hF : Ext w207 w := Ext.trans ((Ext.refl _).drew) hE
          have e18 : a.eval (.tmp 18) = .slice (some ⟨w204.heap.size, 0, none⟩) 4 4 := ho 18 (by kernel_rfl)
          rw [eval_tmp] at e18
          clear bT_0 bT_1 bT_2 bT_3 bT_4 bT_5 bT_6 bT_7 bT_8 bT_9 bT_10 bT_11
          clear hd ho
          replace hK := Lib.hid hK
          go_simp
          exact hK.out _ _ rfl (Ext.refl _)
        · intro a w hE hd ho
          refine .inl ⟨wanted_by 146 rfl rfl (hd 32 (by kernel_rfl)), ?_⟩
          intro K hK
          have hF : Ext w207 w := Ext.trans ((Ext.refl _).drew) hE
          have e18 : a.eval (.tmp 18) = .slice (some ⟨w204.heap.size, 0, none⟩) 4 4 := ho 18 (by kernel_rfl)
          rw [eval_tmp] at e18
          clear bT_0 bT_1 bT_2 bT_3 bT_4 bT_5 bT_6 bT_7 bT_8 bT_9 bT_10 bT_11
          clear hd ho
          replace hK := Lib.hid hK
          go_simp
          exact hK.out _ _ rfl (Ext.refl _)
        · intro a w hE hd ho
          refine .inl ⟨wanted_by 146 rfl rfl (hd 32 (by kernel_rfl)), ?_⟩
          intro K hK
          have hF : Ext w207 w := Ext.trans ((Ext.refl _).drew) hE
          have e148 : a.eval (.tmp 148) = .slice (some ⟨w204.heap.size, 0, none⟩) 4 4 := hd 34 (by kernel_rfl)
          rw [eval_tmp] at e148
          clear bT_0 bT_1 bT_2 bT_3 bT_4 bT_5 bT_6 bT_7 bT_8 bT_9 bT_10 bT_11
          clear hd ho
          replace hK := Lib.hid hK
          go_simp
          exact hK.out _ _ rfl (Ext.refl _)
        · intro a w hE hd ho
          refine .inl ⟨wanted_by 146 rfl rfl (hd 32 (by kernel_rfl)), ?_⟩
          intro K hK
          have hF : Ext w207 w := Ext.trans ((Ext.refl _).drew) hE
          have e18 : a.eval (.tmp 18) = .slice (some ⟨w204.heap.size, 0, none⟩) 4 4 := ho 18 (by kernel_rfl)
          rw [eval_tmp] at e18
          clear bT_0 bT_1 bT_2 bT_3 bT_4 bT_5 bT_6 bT_7 bT_8 bT_9 bT_10 bT_11
          clear hd ho
          replace hK := Lib.hid hK
          go_simp
          exact hK.out _ _ rfl (Ext.refl _)
        · intro a w hE hd ho
          refine .inl ⟨wanted_by 146 rfl rfl (hd 32 (by kernel_rfl)), ?_⟩
          intro K hK
          have hF : Ext w207 w := Ext.trans ((Ext.refl _).drew) hE
          have e150 : a.eval (.tmp 150) = .slice (some ⟨w204.heap.size, 0, none⟩) 4 4 := hd 36 (by kernel_rfl)
          rw [eval_tmp] at e150
          clear bT_0 bT_1 bT_2 bT_3 bT_4 bT_5 bT_6 bT_7 bT_8 bT_9 bT_10 bT_11
          clear hd ho
          replace hK := Lib.hid hK
          go_simp
          exact hK.out _ _ rfl (Ext.refl _)
        · intro a w hE hd ho
          refine .inl ⟨wanted_by 146 rfl rfl (hd 32 (by kernel_rfl)), ?_⟩
          intro K hK
          have hF : Ext w207 w := Ext.trans ((Ext.refl _).drew) hE
          have e151 : a.eval (.tmp 151) = .pointer (some ⟨w204.heap.size, 9, none⟩) := hd 37 (by kernel_rfl)
          rw [eval_tmp] at e151
          have bT_9w := Ext.cell hF bT_9
          have bT_10w := Ext.cell hF bT_10
          have bT_11w := Ext.cell hF bT_11
          clear bT_0 bT_1 bT_2 bT_3 bT_4 bT_5 bT_6 bT_7 bT_8 bT_9 bT_10 bT_11
          clear hd ho
          replace hK := Lib.hid hK
          go_simp
          exact hK.out _ _ rfl (Ext.refl _)
        · intro a w hE hd ho
          refine .inl ⟨wanted_by 146 rfl rfl (hd 32 (by kernel_rfl)), ?_⟩
          intro K hK
          have hF : Ext w207 w := Ext.trans ((Ext.refl _).drew) hE
          have e152 : a.eval (.tmp 152) = .agg #[.int .u8 1, .int .i64 9, .int .i64 0] := hd 38 (by kernel_rfl)
          rw [eval_tmp] at e152
          clear bT_0 bT_1 bT_2 bT_3 bT_4 bT_5 bT_6 bT_7 bT_8 bT_9 bT_10 bT_11
          clear hd ho
          replace hK := Lib.hid hK
          go_simp
          exact hK.out _ _ (Its.lit w _ [⟨1, 9, 0⟩] _ _ rfl rfl (by simp [maxLen]) rfl) ((Ext.refl _).alloc _)
        · intro a w hE hd ho
          refine .inl ⟨wanted_by 146 rfl rfl (hd 32 (by kernel_rfl)), ?_⟩
          intro K hK
          have hF : Ext w207 w := Ext.trans ((Ext.refl _).drew) hE
          have e147 : a.eval (.tmp 147) = .slice (some ⟨w204.heap.size, 0, none⟩) 4 4 := hd 33 (by kernel_rfl)
          rw [eval_tmp] at e147
          have e149 : a.eval (.tmp 149) = .slice (some ⟨w204.heap.size, 0, none⟩) 3 4 := hd 35 (by kernel_rfl)
          rw [eval_tmp] at e149
          have h153 : Its w (a.eval (.tmp 153)) [⟨1, 9, 0⟩] := hd 39 (by kernel_rfl)
          obtain ⟨xa153, xc153, e153, xl153, -⟩ := h153.form
          rw [e153] at h153
          rw [eval_tmp] at e153
          clear bT_0 bT_1 bT_2 bT_3 bT_4 bT_5 bT_6 bT_7 bT_8 bT_9 bT_10 bT_11
          clear hd ho
          replace hK := Lib.hid hK
          go_simp
          refine (law29_leaves 1 false (l := tw29) (hT.ext hF) (hT3.ext hF) h153 l29_f).mono ?_
          rintro e wz ⟨rfl, hZ⟩
          go_simp
          exact hK.out _ _ rfl hZ
        · intro a w hE hd ho
          refine .inl ⟨rfl, ?_⟩
          intro K hK
          have hF : Ext w207 w := Ext.trans ((Ext.refl _).drew) hE
          have e146 : a.eval (.tmp 146) = .bool true := hd 32 (by kernel_rfl)
          rw [eval_tmp] at e146
          have e154 : a.eval (.tmp 154) = .bool true := hd 40 (by kernel_rfl)
          rw [eval_tmp] at e154
          clear bT_0 bT_1 bT_2 bT_3 bT_4 bT_5 bT_6 bT_7 bT_8 bT_9 bT_10 bT_11
          clear hd ho
          replace hK := Lib.hid hK
          go_simp
          exact hK.out _ _ rfl (Ext.refl _)
        · intro a w hE hd ho
          refine .inl ⟨rfl, ?_⟩
          intro K hK
          have hF : Ext w207 w := Ext.trans ((Ext.refl _).drew) hE
          have e155 : a.eval (.tmp 155) = .bool true := hd 41 (by kernel_rfl)
          rw [eval_tmp] at e155
          clear bT_0 bT_1 bT_2 bT_3 bT_4 bT_5 bT_6 bT_7 bT_8 bT_9 bT_10 bT_11
          clear hd ho
          replace hK := Lib.hid hK
          go_simp
          exact hK.out _ _ rfl (Ext.refl _)
        · intro a w hE hd ho
          refine .inl ⟨wanted_by 156 rfl rfl (hd 42 (by kernel_rfl)), ?_⟩
          intro K hK
          have hF : Ext w207 w := Ext.trans ((Ext.refl _).drew) hE
          have e20 : a.eval (.tmp 20) = .int .i64 0 := ho 20 (by kernel_rfl)
          rw [eval_tmp] at e20
          clear bT_0 bT_1 bT_2 bT_3 bT_4 bT_5 bT_6 bT_7 bT_8 bT_9 bT_10 bT_11
          clear hd ho
          replace hK := Lib.hid hK
          go_simp
          exact hK.out _ _ rfl (Ext.refl _)
        · intro a w hE hd ho
          refine .inl ⟨wanted_by 156 rfl rfl (hd 42 (by kernel_rfl)), ?_⟩
          intro K hK
          have hF : Ext w207 w := Ext.trans ((Ext.refl _).drew) hE
          have e157 : a.eval (.tmp 157) = .int .i64 0 := hd 43 (by kernel_rfl)
          rw [eval_tmp] at e157
          clear bT_0 bT_1 bT_2 bT_3 bT_4 bT_5 bT_6 bT_7 bT_8 bT_9 bT_10 bT_11
          clear hd ho
          replace hK := Lib.hid hK
          go_simp
          exact hK.out _ _ rfl (Ext.refl _)
        · intro a w hE hd ho
          refine .inl ⟨rfl, ?_⟩
          intro K hK
          have hF : Ext w207 w := Ext.trans ((Ext.refl _).drew) hE
          have e156 : a.eval (.tmp 156) = .bool true := hd 42 (by kernel_rfl)
          rw [eval_tmp] at e156
          have e158 : a.eval (.tmp 158) = .bool true := hd 44 (by kernel_rfl)
          rw [eval_tmp] at e158
          clear bT_0 bT_1 bT_2 bT_3 bT_4 bT_5 bT_6 bT_7 bT_8 bT_9 bT_10 bT_11
          clear hd ho
          replace hK := Lib.hid hK
          go_simp
          exact hK.out _ _ rfl (Ext.refl _)
        · intro a w hE hd ho
          refine .inl ⟨rfl, ?_⟩
          intro K hK
          have hF : Ext w207 w := Ext.trans ((Ext.refl _).drew) hE
          have e159 : a.eval (.tmp 159) = .bool true := hd 45 (by kernel_rfl)
          rw [eval_tmp] at e159
          clear bT_0 bT_1 bT_2 bT_3 bT_4 bT_5 bT_6 bT_7 bT_8 bT_9 bT_10 bT_11
          clear hd ho
          replace hK := Lib.hid hK
          go_simp
          exact hK.out _ _ rfl (Ext.refl _)
        · intro a w hE hd ho
          refine .inl ⟨wanted_by 160 rfl rfl (hd 46 (by kernel_rfl)), ?_⟩
          intro K hK
          have hF : Ext w207 w := Ext.trans ((Ext.refl _).drew) hE
          have e19 : a.eval (.tmp 19) = .bool true := ho 19 (by kernel_rfl)
          rw [eval_tmp] at e19
          clear bT_0 bT_1 bT_2 bT_3 bT_4 bT_5 bT_6 bT_7 bT_8 bT_9 bT_10 bT_11
          clear hd ho
          replace hK := Lib.hid hK
          go_simp
          exact hK.out _ _ rfl (Ext.refl _)
        · intro a w hE hd ho
          refine .inl ⟨rfl, ?_⟩
          intro K hK
          have hF : Ext w207 w := Ext.trans ((Ext.refl _).drew) hE
          have e160 : a.eval (.tmp 160) = .bool true := hd 46 (by kernel_rfl)
          rw [eval_tmp] at e160
          have e161 : a.eval (.tmp 161) = .bool true := hd 47 (by kernel_rfl)
          rw [eval_tmp] at e161
          clear bT_0 bT_1 bT_2 bT_3 bT_4 bT_5 bT_6 bT_7 bT_8 bT_9 bT_10 bT_11
          clear hd ho
          replace hK := Lib.hid hK
          go_simp
          exact hK.out _ _ rfl (Ext.refl _)
        · intro a w hE hd ho
          refine .inl ⟨rfl, ?_⟩
          intro K hK
          have hF : Ext w207 w := Ext.trans ((Ext.refl _).drew) hE
          have e162 : a.eval (.tmp 162) = .bool true := hd 48 (by kernel_rfl)
          rw [eval_tmp] at e162
          clear bT_0 bT_1 bT_2 bT_3 bT_4 bT_5 bT_6 bT_7 bT_8 bT_9 bT_10 bT_11
          clear hd ho
          replace hK := Lib.hid hK
          go_simp
          exact hK.out _ _ rfl (Ext.refl _)
        · intro a w hE hd ho
          refine .inl ⟨wanted_by 163 rfl rfl (hd 49 (by kernel_rfl)), ?_⟩
          intro K hK
          have hF : Ext w207 w := Ext.trans ((Ext.refl _).drew) hE
          have e22 : a.eval (.tmp 22) = .int .i64 0 := ho 22 (by kernel_rfl)
          rw [eval_tmp] at e22
          clear bT_0 bT_1 bT_2 bT_3 bT_4 bT_5 bT_6 bT_7 bT_8 bT_9 bT_10 bT_11
          clear hd ho
          replace hK := Lib.hid hK
          go_simp
          exact hK.out _ _ rfl (Ext.refl _)
        · intro a w hE hd ho
          refine .inl ⟨wanted_by 163 rfl rfl (hd 49 (by kernel_rfl)), ?_⟩
          intro K hK
          have hF : Ext w207 w := Ext.trans ((Ext.refl _).drew) hE
          have e164 : a.eval (.tmp 164) = .int .i64 0 := hd 50 (by kernel_rfl)
          rw [eval_tmp] at e164
          clear bT_0 bT_1 bT_2 bT_3 bT_4 bT_5 bT_6 bT_7 bT_8 bT_9 bT_10 bT_11
          clear hd ho
          replace hK := Lib.hid hK
          go_simp
          exact hK.out _ _ rfl (Ext.refl _)
        · intro a w hE hd ho
          refine .inl ⟨rfl, ?_⟩
          intro K hK
          have hF : Ext w207 w := Ext.trans ((Ext.refl _).drew) hE
          have e163 : a.eval (.tmp 163) = .bool true := hd 49 (by kernel_rfl)
          rw [eval_tmp] at e163
          have e165 : a.eval (.tmp 165) = .bool true := hd 51 (by kernel_rfl)
          rw [eval_tmp] at e165
          clear bT_0 bT_1 bT_2 bT_3 bT_4 bT_5 bT_6 bT_7 bT_8 bT_9 bT_10 bT_11
          clear hd ho
          replace hK := Lib.hid hK
          go_simp
          exact hK.out _ _ rfl (Ext.refl _)
        · intro a w hE hd ho
          refine .inl ⟨rfl, ?_⟩
          intro K hK
          have hF : Ext w207 w := Ext.trans ((Ext.refl _).drew) hE
          have e166 : a.eval (.tmp 166) = .bool true := hd 52 (by kernel_rfl)
          rw [eval_tmp] at e166
          clear bT_0 bT_1 bT_2 bT_3 bT_4 bT_5 bT_6 bT_7 bT_8 bT_9 bT_10 bT_11
          clear hd ho
          replace hK := Lib.hid hK
          go_simp
          exact hK.out _ _ rfl (Ext.refl _)
        · intro a w hE hd ho
          refine .inl ⟨wanted_by 167 rfl rfl (hd 53 (by kernel_rfl)), ?_⟩
          intro K hK
          have hF : Ext w207 w := Ext.trans ((Ext.refl _).drew) hE
          have e21 : a.eval (.tmp 21) = .bool false := ho 21 (by kernel_rfl)
          rw [eval_tmp] at e21
          clear bT_0 bT_1 bT_2 bT_3 bT_4 bT_5 bT_6 bT_7 bT_8 bT_9 bT_10 bT_11
          clear hd ho
          replace hK := Lib.hid hK
          go_simp
          exact hK.out _ _ rfl (Ext.refl _)
        · intro a w hE hd ho
          refine .inl ⟨wanted_by 167 rfl rfl (hd 53 (by kernel_rfl)), ?_⟩
          intro K hK
          have hF : Ext w207 w := Ext.trans ((Ext.refl _).drew) hE
          have e168 : a.eval (.tmp 168) = .bool false := hd 54 (by kernel_rfl)
          rw [eval_tmp] at e168
          clear bT_0 bT_1 bT_2 bT_3 bT_4 bT_5 bT_6 bT_7 bT_8 bT_9 bT_10 bT_11
          clear hd ho
          replace hK := Lib.hid hK
          go_simp
          exact hK.out _ _ rfl (Ext.refl _)
        · intro a w hE hd ho
          refine .inl ⟨rfl, ?_⟩
          intro K hK
          have hF : Ext w207 w := Ext.trans ((Ext.refl _).drew) hE
          have e167 : a.eval (.tmp 167) = .bool true := hd 53 (by kernel_rfl)
          rw [eval_tmp] at e167
          have e169 : a.eval (.tmp 169) = .bool true := hd 55 (by kernel_rfl)
          rw [eval_tmp] at e169
          clear bT_0 bT_1 bT_2 bT_3 bT_4 bT_5 bT_6 bT_7 bT_8 bT_9 bT_10 bT_11
          clear hd ho
          replace hK := Lib.hid hK
          go_simp
          exact hK.out _ _ rfl (Ext.refl _)
        · intro a w hE hd ho
          refine .inl ⟨rfl, ?_⟩
          intro K hK
          have hF : Ext w207 w := Ext.trans ((Ext.refl _).drew) hE
          have e170 : a.eval (.tmp 170) = .bool true := hd 56 (by kernel_rfl)
          rw [eval_tmp] at e170
          clear bT_0 bT_1 bT_2 bT_3 bT_4 bT_5 bT_6 bT_7 bT_8 bT_9 bT_10 bT_11
          clear hd ho
          replace hK := Lib.hid hK
          go_simp
          exact hK.out _ _ rfl (Ext.refl _)
      · intro vals w hE hv
        have hF : Ext w207 w := Ext.trans ((Ext.refl _).drew) hE
        have ee : vals 57 = .bool true := hv 57 (by decide)
        clear hv hE
        try dsimp only [List.append]
        simp only [putAll]
        go_simp
        try rw [ee]
        go_wp2
        go_ret
        exact ⟨rfl, Ext.trans (hF206) hF⟩

set_option maxRecDepth 100000 in
theorem accessNames_lifted (os : Os) (started : os.Started) (H : Type) (enc : TypeId × Value → H) :
    ReturnsInHanded {} Try.checked os 4 .any (Rows.accessNamesSpec.pre6 enc Try.prog Try.f4 Rows.accessNamesRow.domain false) (Rows.accessNamesSpec.post enc Try.prog Try.f4 false true false false) := by
  refine returnsInHanded_of_change (C := Try.checked) Tryown started (by kernel_rfl) Try.func4
    (ChangeSpec.witness6 (enc := enc) (C := Try.checked) false ⟨#[], #[], []⟩ 8 (by kernel_rfl) (by kernel_rfl) (by kernel_rfl) (by kernel_rfl)) ?_
  intro W base args ds gs before hval0 hW _ _
  have hval : ∀ (j : Nat) t v, Try.f4.params[j]? = some t → args[j]? = some v → Value.okWide Try.prog W .any base t v := hval0
  have hW' := hW
  obtain ⟨p, q, hA0, hV, rfl, hfz, hnd⟩ := hW
  have hA : DataW.TrodAll enc Try.prog W 0 (fun _ => true) true Try.f4.params.toList args.toList ds p := hA0
  rw [Try.params4] at hA hval
  obtain ⟨hargs, rfl, rfl⟩ := trodAll_nil hA
  obtain rfl : args = #[] := by cases args; simp_all
  refine (accessNames_walk).mono fun e W' ⟨he, hb⟩ => ?_
  subst he
  exact ⟨_, rfl, post_law TrylaidOut (tb := 4) rfl Try.underlying4 (by kernel_rfl) rfl (fun ds hd => match ds, hd with | [], _ => rfl) hW' hb⟩

theorem accessNames_holds : Rows.AccessNamesSaid :=
  OpenClaim.holds_of_wide 4 Try.f4 rfl rfl rfl rfl rfl rfl rfl ⟨rfl, rfl, rfl, rfl, rfl⟩ rfl rfl rfl rfl rfl (by kernel_rfl) Try.func4 (by kernel_rfl)
    (of_decide_eq_true (by kernel_rfl)) (by unfold Func.isWrapper; first | (rw [if_pos (by decide +kernel)]; kernel_rfl) | (rw [if_neg (by decide +kernel)]; exact ⟨rfl, rfl⟩))
    (fun os started H enc _ => accessNames_lifted os started H enc)

end Go.Proofs.Ytcndhbkbbmgeeaa
