/- Contracts: layer 29, the program's and the reference's, and the helpers of its statements. (printed by gen/accd.py) -/
import Derived.Test.YtbkbkfpmgehigaaAccB
import Derived.Test.YtbkbkfpmgehigaaAccC
namespace Go.Proofs.Ytbkbkfpmgehigaa
open Go.RowKit




set_option maxHeartbeats 400000 in
theorem access_Write {l : List Item} {v : Value} {w : World} (tag : Int) (hl : Its w v l) :
    Calls Try.prog 31 #[v, .int .i64 tag] w (RetU w (accL l tag true) (accG l tag true) (accW l tag true) (chk l)) := by
  have hC := Lib.hid (access_use tag true hl)
  obtain ⟨a, cp, rfl, -⟩ := hl.form
  clear hl
  go_enter Try.func31, Try.ntmps31
  go_wp2_with fail
  refine hC.out.mono ?_
  rintro e w1 ⟨v1, v2, rfl, h1, h2, hE⟩
  go_wp2
  refine bodyPost_ret (results_tmp4 rfl _ _ _) rfl ?_
  exact ⟨_, _, rfl, h1, h2, hE⟩







def exam29 : List Item := [⟨1, 1, 0⟩, ⟨1, 2, 0⟩, ⟨4, 3, 0⟩, ⟨1, 4, 0⟩]


end Go.Proofs.Ytbkbkfpmgehigaa
