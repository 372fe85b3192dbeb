/- Contracts: two memories that read alike are the same (SameAlloc, Same, SameCells of the references). -/
import Derived.Test.YtiikdpfbbcnplaaCelW3
import Derived.Deep.RegionHeld3
import Derived.Deep.DeepMust
namespace Go.Proofs.Ytiikdpfbbcnplaa
set_option maxRecDepth 100000
open Go.RowKit

theorem run_neq_cell (x : Cell) (w : World) : (binOp .neq 29 x.val x.val).run Try.prog w = .ok (.bool false) w := by
  obtain ⟨k, n, a, o, t⟩ := x
  unfold Cell.val
  go_simp

set_option maxHeartbeats 1600000 in
theorem ref26_SameAlloc {num : Int} {live : Bool} {cs : List Cell} {s u : Value} {w : World} (hs : Cls w s cs) (hu : Cls w u cs) :
    Calls Try.prog 82 #[.agg #[.int .i64 num, .bool live, s], .agg #[.int .i64 num, .bool live, u]] w fun e w' => e = .returned (.bool true) ∧ Ext w w' := by
  have hE0 := ((Ext.refl w).alloc (.cells #[.int .i64 num, .bool live, s] 70)).alloc (.cells #[.int .i64 num, .bool live, u] 70)
  obtain ⟨a, cp, rfl, hlc, hcm, -⟩ := hs.form
  obtain ⟨a2, cp2, rfl, hlc2, hcm2, -⟩ := hu.form
  unfold maxLen at hcm hcm2
  have hS := Lib.hid (hs.ext hE0)
  have hU := Lib.hid (hu.ext hE0)
  clear hs hu
  go_enter Try.func82, Try.ntmps82
  go_wp2
  obtain ⟨w1, hw1⟩ : ∃ w1, (w.alloc (.cells #[.int .i64 num, .bool live, .slice a cs.length cp] 70)).alloc (.cells #[.int .i64 num, .bool live, .slice a2 cs.length cp2] 70) = w1 := ⟨_, rfl⟩
  have b2 : w1.cell? ⟨w.heap.size, 2, none⟩ = some (.slice a cs.length cp) := by rw [← hw1]; simp
  have b3 : w1.cell? ⟨w.heap.size + 1, 2, none⟩ = some (.slice a2 cs.length cp2) := by rw [← hw1]; simp
  rw [hw1] at hE0 hS hU ⊢
  clear hw1
  go_loopw [5] (fun iv wr => ∃ k : Nat, k ≤ cs.length ∧ iv = .int .i64 k ∧ Ext w1 wr) (fun iv _ => cs.length - (intOf iv).toNat)
  case atStart => exact ⟨0, Nat.zero_le _, rfl, Ext.refl _⟩
  case round =>
    obtain ⟨k, hk, rfl, hE⟩ := hrel
    have e2 := hE.cell b2
    have e3 := hE.cell b3
    by_cases hlt : k < cs.length
    · obtain ⟨x, hx⟩ : ∃ x, cs[k]? = some x := ⟨cs[k], by simp [hlt]⟩
      obtain ⟨b, off, rfl, hbb, c0, c1, c2, c3, c4⟩ := (hS.out.ext hE).cell hx
      obtain ⟨b', off', rfl, hbb', d0, d1, d2, d3, d4⟩ := (hU.out.ext hE).cell hx
      clear hx
      have hi0 : (0 : Int) ≤ (k : Int) := by omega
      have hi1 : (k : Int) < (cs.length : Int) := by omega
      have hn := run_neq_cell x
      unfold Cell.val at hn
      go_wp2
      go_quiet (fail)
      go_wp2
      go_roundw
      case rel => exact ⟨k + 1, by omega, by go_num, hE.drewN _⟩
      case measure => simp [intOf]; omega
    · have hkl : k = cs.length := by omega
      subst hkl
      go_wp2
      go_ret
      exact ⟨rfl, hE0.trans hE⟩

set_option maxHeartbeats 1600000 in
theorem ref26_Same {l : List Alloc} {next : Int} {s u : Value} {w : World} (hs : Als w s l) (hu : Als w u l) :
    Calls Try.prog 43 #[.agg #[s, .int .i64 next], .agg #[u, .int .i64 next]] w fun e w' => e = .returned (.bool true) ∧ Ext w w' := by
  have hE0 := ((Ext.refl w).alloc (.cells #[s, .int .i64 next] 24)).alloc (.cells #[u, .int .i64 next] 24)
  obtain ⟨a, cp, rfl, hlc, hcm, -⟩ := hs.form
  obtain ⟨a2, cp2, rfl, hlc2, hcm2, -⟩ := hu.form
  unfold maxLen at hcm hcm2
  have hS := Lib.hid (hs.ext hE0)
  have hU := Lib.hid (hu.ext hE0)
  clear hs hu
  go_enter Try.func43, Try.ntmps43
  go_wp2
  obtain ⟨w1, hw1⟩ : ∃ w1, (w.alloc (.cells #[.slice a l.length cp, .int .i64 next] 24)).alloc (.cells #[.slice a2 l.length cp2, .int .i64 next] 24) = w1 := ⟨_, rfl⟩
  have b2 : w1.cell? ⟨w.heap.size, 0, none⟩ = some (.slice a l.length cp) := by rw [← hw1]; simp
  have b3 : w1.cell? ⟨w.heap.size + 1, 0, none⟩ = some (.slice a2 l.length cp2) := by rw [← hw1]; simp
  rw [hw1] at hE0 hS hU ⊢
  clear hw1
  go_loopw [5] (fun iv wr => ∃ k : Nat, k ≤ l.length ∧ iv = .int .i64 k ∧ Ext w1 wr) (fun iv _ => l.length - (intOf iv).toNat)
  case atStart => exact ⟨0, Nat.zero_le _, rfl, Ext.refl _⟩
  case round =>
    obtain ⟨k, hk, rfl, hE⟩ := hrel
    have e2 := hE.cell b2
    have e3 := hE.cell b3
    by_cases hlt : k < l.length
    · obtain ⟨x, hx⟩ : ∃ x, l[k]? = some x := ⟨l[k], by simp [hlt]⟩
      obtain ⟨b, off, sv, rfl, hbb, c0, c1, c2, hc⟩ := (hS.out.ext hE).cell hx
      obtain ⟨b', off', su, rfl, hbb', d0, d1, d2, hd⟩ := (hU.out.ext hE).cell hx
      have hC := Lib.hid hc
      have hD := Lib.hid hd
      clear hx hc hd
      have hi0 : (0 : Int) ≤ (k : Int) := by omega
      have hi1 : (k : Int) < (l.length : Int) := by omega
      go_wp2
      have hSk : ∀ w' w'' : World, (w'.cell? ⟨w.heap.size, 0, none⟩ = some (.slice (some ⟨b, off, none⟩) l.length cp) ∧ w'.cell? ⟨w.heap.size + 1, 0, none⟩ = some ((.slice (some ⟨b', off', none⟩) l.length cp2)) ∧ w'.cell? ⟨b, off + k * 3, none⟩ = some (.int .i64 x.num) ∧ w'.cell? ⟨b, off + k * 3 + 1, none⟩ = some (.bool x.live) ∧ w'.cell? ⟨b, off + k * 3 + 2, none⟩ = some (sv) ∧ w'.cell? ⟨b', off' + k * 3, none⟩ = some (.int .i64 x.num) ∧ w'.cell? ⟨b', off' + k * 3 + 1, none⟩ = some (.bool x.live) ∧ w'.cell? ⟨b', off' + k * 3 + 2, none⟩ = some (su) ∧ Ext wr w') → Ext w' w'' → (w''.cell? ⟨w.heap.size, 0, none⟩ = some (.slice (some ⟨b, off, none⟩) l.length cp) ∧ w''.cell? ⟨w.heap.size + 1, 0, none⟩ = some ((.slice (some ⟨b', off', none⟩) l.length cp2)) ∧ w''.cell? ⟨b, off + k * 3, none⟩ = some (.int .i64 x.num) ∧ w''.cell? ⟨b, off + k * 3 + 1, none⟩ = some (.bool x.live) ∧ w''.cell? ⟨b, off + k * 3 + 2, none⟩ = some (sv) ∧ w''.cell? ⟨b', off' + k * 3, none⟩ = some (.int .i64 x.num) ∧ w''.cell? ⟨b', off' + k * 3 + 1, none⟩ = some (.bool x.live) ∧ w''.cell? ⟨b', off' + k * 3 + 2, none⟩ = some (su) ∧ Ext wr w'') := by
        rintro w' w'' ⟨k0, k1, k2, k3, k4, k5, k6, k7, kE⟩ h
        exact ⟨h.cell k0, h.cell k1, h.cell k2, h.cell k3, h.cell k4, h.cell k5, h.cell k6, h.cell k7, Ext.trans kE h⟩
      go_region_held3 (fun w' => (w'.cell? ⟨w.heap.size, 0, none⟩ = some (.slice (some ⟨b, off, none⟩) l.length cp) ∧ w'.cell? ⟨w.heap.size + 1, 0, none⟩ = some ((.slice (some ⟨b', off', none⟩) l.length cp2)) ∧ w'.cell? ⟨b, off + k * 3, none⟩ = some (.int .i64 x.num) ∧ w'.cell? ⟨b, off + k * 3 + 1, none⟩ = some (.bool x.live) ∧ w'.cell? ⟨b, off + k * 3 + 2, none⟩ = some (sv) ∧ w'.cell? ⟨b', off' + k * 3, none⟩ = some (.int .i64 x.num) ∧ w'.cell? ⟨b', off' + k * 3 + 1, none⟩ = some (.bool x.live) ∧ w'.cell? ⟨b', off' + k * 3 + 2, none⟩ = some (su) ∧ Ext wr w')) (first | assumption | exact ⟨e2, e3, c0, c1, c2, d0, d1, d2, (Ext.refl _).drew⟩ | (refine hSk _ _ (by assumption) ?_; first | assumption | exact (Ext.refl _).alloc _ | exact ((Ext.refl _).alloc _).drew)) (first | (go_at_call 82; refine (ref26_SameAlloc (hC.out.ext ?_) (hD.out.ext ?_)).mono ?_; (exact And.right (And.right (And.right (And.right (And.right (And.right (And.right (And.right (by assumption))))))))); (exact And.right (And.right (And.right (And.right (And.right (And.right (And.right (And.right (by assumption))))))))); rintro e wr0 ⟨rfl, hR0⟩))
      obtain ⟨g0, g1, g2, g3, g4, g5, g6, g7, hRR⟩ := (by assumption : (wr0.cell? ⟨w.heap.size, 0, none⟩ = some (.slice (some ⟨b, off, none⟩) l.length cp) ∧ wr0.cell? ⟨w.heap.size + 1, 0, none⟩ = some ((.slice (some ⟨b', off', none⟩) l.length cp2)) ∧ wr0.cell? ⟨b, off + k * 3, none⟩ = some (.int .i64 x.num) ∧ wr0.cell? ⟨b, off + k * 3 + 1, none⟩ = some (.bool x.live) ∧ wr0.cell? ⟨b, off + k * 3 + 2, none⟩ = some (sv) ∧ wr0.cell? ⟨b', off' + k * 3, none⟩ = some (.int .i64 x.num) ∧ wr0.cell? ⟨b', off' + k * 3 + 1, none⟩ = some (.bool x.live) ∧ wr0.cell? ⟨b', off' + k * 3 + 2, none⟩ = some (su) ∧ Ext wr wr0))
      clear e2; have e2 := g0; clear g0
      clear e3; have e3 := g1; clear g1
      clear c0; have c0 := g2; clear g2
      clear c1; have c1 := g3; clear g3
      clear c2; have c2 := g4; clear g4
      clear d0; have d0 := g5; clear g5
      clear d1; have d1 := g6; clear g6
      clear d2; have d2 := g7; clear g7
      go_wp2
      go_roundw
      case rel => exact ⟨k + 1, by omega, by go_num, hE.trans hRR⟩
      case measure => simp [intOf]; omega
    · have hkl : k = l.length := by omega
      subst hkl
      go_wp2
      go_ret
      exact ⟨rfl, hE0.trans hE⟩

end Go.Proofs.Ytiikdpfbbcnplaa
