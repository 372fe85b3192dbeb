/- Contracts: layer 29, the program's and the reference's, and the helpers of its statements. (printed by gen/accd.py) -/
import Derived.Test.YtkbocenpkdaogaaDoorAccB
import Derived.Test.YtkbocenpkdaogaaDoorAccC
namespace Go.Proofs.YtkbocenpkdaogaaDoor
set_option maxRecDepth 100000
open Go.RowKit


set_option maxHeartbeats 400000 in
theorem access_ReadO {l : List Item} {v : Value} {w : World} (tag : Int) (hl : Its w v l) :
    Calls Tryd.prog 43 #[v, .int .i64 tag] w (RetUO w (accL l tag false) (accG l tag false) (accW l tag false) (chk l)) := by
  have hC := Lib.hid (access_useO tag false hl)
  obtain ⟨a, cp, rfl, -⟩ := hl.form
  clear hl
  go_enter Tryd.func43, Tryd.ntmps43
  go_wp2_with fail
  refine hC.out.mono ?_
  rintro e w1 ⟨v1, v2, rfl, h1, h2, h3, hE⟩
  have h3o := Lib.hid h3; clear h3
  go_wp2
  refine bodyPost_ret (results_tmp4 rfl _ _ _) rfl ?_
  exact ⟨_, _, rfl, h1, h2, h3o.out, hE⟩

theorem access_Read {l : List Item} {v : Value} {w : World} (tag : Int) (hl : Its w v l) :
    Calls Tryd.prog 43 #[v, .int .i64 tag] w (RetU w (accL l tag false) (accG l tag false) (accW l tag false) (chk l)) := (access_ReadO tag hl).mono fun _ _ h => h.weak


set_option maxHeartbeats 400000 in
theorem access_WriteO {l : List Item} {v : Value} {w : World} (tag : Int) (hl : Its w v l) :
    Calls Tryd.prog 44 #[v, .int .i64 tag] w (RetUO w (accL l tag true) (accG l tag true) (accW l tag true) (chk l)) := by
  have hC := Lib.hid (access_useO tag true hl)
  obtain ⟨a, cp, rfl, -⟩ := hl.form
  clear hl
  go_enter Tryd.func44, Tryd.ntmps44
  go_wp2_with fail
  refine hC.out.mono ?_
  rintro e w1 ⟨v1, v2, rfl, h1, h2, h3, hE⟩
  have h3o := Lib.hid h3; clear h3
  go_wp2
  refine bodyPost_ret (results_tmp4 rfl _ _ _) rfl ?_
  exact ⟨_, _, rfl, h1, h2, h3o.out, hE⟩

theorem access_Write {l : List Item} {v : Value} {w : World} (tag : Int) (hl : Its w v l) :
    Calls Tryd.prog 44 #[v, .int .i64 tag] w (RetU w (accL l tag true) (accG l tag true) (accW l tag true) (chk l)) := (access_WriteO tag hl).mono fun _ _ h => h.weak







def exam29 : List Item := [⟨1, 1, 0⟩, ⟨1, 2, 0⟩, ⟨4, 3, 0⟩, ⟨1, 4, 0⟩]


end Go.Proofs.YtkbocenpkdaogaaDoor
