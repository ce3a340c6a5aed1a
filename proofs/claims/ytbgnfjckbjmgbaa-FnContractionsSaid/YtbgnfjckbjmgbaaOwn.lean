/-
  Copies of slices, in the program and in the reference.
  No condition.
-/
import Derived.Test.YtbgnfjckbjmgbaaPush
namespace Go.Proofs.Ytbgnfjckbjmgbaa
set_option maxRecDepth 100000
open Go.RowKit

set_option maxHeartbeats 400000 in
theorem s_own (b off n cap : Nat) (xs : List Int) (w : World) (hn : 0 < n) (hl : n ≤ 4194303) (hx : RdC w (some ⟨b, off, none⟩) n xs) :
    Calls Try.prog 196 #[.slice (some ⟨b, off, none⟩) n cap] w fun e w' => ∃ g rc, e = .returned (.slice (some ⟨g, 0, none⟩) n rc) ∧ OwnC w.heap.size w' (some ⟨g, 0, none⟩) n rc xs ∧ Ext w w' := by
  go_enter Try.func196, Try.ntmps196
  go_wp2_with (at_builtin; refine wpList_appendAll rfl (.tmp 3) (.tmp 4) rfl rfl rfl (own_empty w) (hx.ext (ext_alloc _ _)) hn (by omega) (by omega) ?hB ?hk)
  case hB => simp
  case hk =>
    intro g' cap' w3 ho3 hg3 he3
    have HO3 := Lib.hid ho3
    have HE3 := Lib.hid (he3 w (Nat.le_refl _) (ext_alloc _ _))
    clear ho3 hg3 he3
    go_wp2_with (fail)
    go_ret
    exact ⟨g', cap', rfl, HO3.out, HE3.out⟩
set_option maxHeartbeats 400000 in
theorem c_clone (b off n cap : Nat) (xs : List Int) (w : World) (hn : 0 < n) (hl : n ≤ 4194303) (hx : RdC w (some ⟨b, off, none⟩) n xs) :
    Calls Try.prog 191 #[.slice (some ⟨b, off, none⟩) n cap] w fun e w' => ∃ g rc, e = .returned (.slice (some ⟨g, 0, none⟩) n rc) ∧ OwnC w.heap.size w' (some ⟨g, 0, none⟩) n rc xs ∧ Ext w w' := by
  have qT : ∀ (w : World) (a : Option Addr) (n c : Nat), (binOp .eql 24 (.slice a n c) (.slice none 0 0)).run Try.prog w = .ok (.bool a.isNone) w := fun w a n c => Lib.run_eql_slice_nil w _ _ a n c 0 0 Try.underlying24
  go_enter Try.func191, Try.ntmps191
  go_wp2_with (at_builtin; refine wpList_appendAll rfl (.tmp 5) (.tmp 6) rfl rfl rfl (own_empty w) (hx.ext (ext_alloc _ _)) hn (by omega) (by omega) ?hB ?hk)
  case hB => simp
  case hk =>
    intro g' cap' w3 ho3 hg3 he3
    have HO3 := Lib.hid ho3
    have HE3 := Lib.hid (he3 w (Nat.le_refl _) (ext_alloc _ _))
    clear ho3 hg3 he3
    go_wp2_with (fail)
    go_ret
    exact ⟨g', cap', rfl, HO3.out, HE3.out⟩

end Go.Proofs.Ytbgnfjckbjmgbaa
