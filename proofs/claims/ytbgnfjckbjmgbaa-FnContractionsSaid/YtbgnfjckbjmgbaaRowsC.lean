/-
  Contracts: copies of rows, transposed rows, unit rows, in the program and in the reference.
  No condition.
-/
import Derived.Test.YtbgnfjckbjmgbaaRows2
import Derived.Test.YtbgnfjckbjmgbaaTimes
import Derived.Test.YtbgnfjckbjmgbaaOwn
namespace Go.Proofs.Ytbgnfjckbjmgbaa
set_option maxRecDepth 100000
open Go.RowKit

theorem RdC.addr {w : World} {a : Option Addr} {n : Nat} {xs : List Int} (h : RdC w a n xs) (hn : 0 < n) : ∃ b off, a = some ⟨b, off, none⟩ := by
  obtain ⟨b, off, ha, _⟩ := h.2 0 hn
  exact ⟨b, off, ha⟩

theorem cell_new (w : World) (z : Nat) (hz : z = w.heap.size) (v : Value) (t : TypeId) : (w.alloc (.cells #[v] t)).cell? ⟨z, 0, none⟩ = some v := by subst hz; simp

set_option maxHeartbeats 1000000 in
theorem c_cloneRows (a : Option Addr) (n cap m : Nat) (rows : List (List Int)) (w : World) (hm : 0 < m) (hm2 : m ≤ 4194303) (hl : n ≤ 4194303) (hrl : ∀ i, i < n → (nthR rows i).length = m) (hx : RdR w a n rows) :
    Calls Try.prog 171 #[.slice a n cap] w fun e w' => ∃ g rc, e = .returned (.slice (some ⟨g, 0, none⟩) n rc) ∧ OwnR w.heap.size w' (some ⟨g, 0, none⟩) n rc rows ∧ Ext w w' := by
  have HX := Lib.hid hx
  have HRL := Lib.hid hrl
  clear hx hrl
  go_enter Try.func171, Try.ntmps171
  go_wp2_with (fail)
  go_loopw [3, 9] (fun v i wr => ∃ (k g rc : Nat), k ≤ n ∧ i = .int .i64 k ∧ v = .slice (some ⟨g, 0, none⟩) k rc ∧ OwnR w.heap.size wr (some ⟨g, 0, none⟩) k rc (rows.take k) ∧ Ext w wr) (fun _ i _ => n - (intOf i).toNat)
  case atStart => exact ⟨0, _, _, Nat.zero_le _, rfl, rfl, ownR_empty w, ext_alloc _ _⟩
  case round =>
    obtain ⟨k, g, rc, hk, rfl, rfl, hown, hext⟩ := hrel
    have HOwn := Lib.hid hown
    have HExt := Lib.hid hext
    clear hown hext
    by_cases hlt : k < n
    · obtain ⟨b, off, ai, ci, rfl, hc, hri⟩ := HX.out.2 k hlt
      rw [HRL.out k hlt] at hc hri
      obtain ⟨bi, oi, rfl⟩ := hri.addr hm
      have hc' := HExt.out.cell hc
      have HRi := Lib.hid (hri.ext HExt.out)
      clear hc hri
      go_wp2_with (fail)
      refine (c_clone bi oi m ci _ _ hm hm2 HRi.out).mono ?_
      rintro e w1 ⟨g1, rc1, rfl, ho1, h1⟩
      have HO1 := Lib.hid ho1
      have H1 := Lib.hid h1
      clear ho1 h1
      go_wp2_with (at_builtin; refine wpList_pushR (w0 := wr) rfl (.tmp 13) (.tmp 16) rfl rfl rfl HOwn.out (H1.out.trans (ext_alloc _ _)) (HO1.out.ext (ext_alloc _ _)) ?hc (by omega) HExt.out.size ?hk)
      case hc => simp
      case hk =>
        intro g' cap' w3 ho3 hg3 he3
        have HO3 := Lib.hid ho3
        have HE3 := Lib.hid (he3 w (Nat.le_refl _) ((HExt.out.trans H1.out).alloc _))
        clear ho3 hg3 he3
        go_wp2_with (fail)
        go_roundw
        case rel => exact ⟨k + 1, g', cap', by omega, by go_num, rfl, by rw [takeR_snoc _ _ (by rw [HX.out.1]; exact hlt)]; exact HO3.out, HE3.out⟩
        case measure => simp [intOf]; omega
    · go_wp2_with (fail)
      go_ret
      obtain rfl : k = n := by omega
      exact ⟨g, rc, rfl, by have := HOwn.out; rwa [List.take_of_length_le (by rw [HX.out.1]; exact Nat.le_refl _)] at this, HExt.out⟩

set_option maxHeartbeats 1000000 in
theorem s_own2 (a : Option Addr) (n cap m : Nat) (rows : List (List Int)) (w : World) (hm : 0 < m) (hm2 : m ≤ 4194303) (hl : n ≤ 4194303) (hrl : ∀ i, i < n → (nthR rows i).length = m) (hx : RdR w a n rows) :
    Calls Try.prog 209 #[.slice a n cap] w fun e w' => ∃ g rc, e = .returned (.slice (some ⟨g, 0, none⟩) n rc) ∧ OwnR w.heap.size w' (some ⟨g, 0, none⟩) n rc rows ∧ Ext w w' := by
  have HX := Lib.hid hx
  have HRL := Lib.hid hrl
  clear hx hrl
  go_enter Try.func209, Try.ntmps209
  go_wp2_with (fail)
  go_loopw [3, 4] (fun v i wr => ∃ (k g rc : Nat), k ≤ n ∧ i = .int .i64 k ∧ v = .slice (some ⟨g, 0, none⟩) k rc ∧ OwnR w.heap.size wr (some ⟨g, 0, none⟩) k rc (rows.take k) ∧ Ext w wr) (fun _ i _ => n - (intOf i).toNat)
  case atStart => exact ⟨0, _, _, Nat.zero_le _, rfl, rfl, ownR_empty w, ext_alloc _ _⟩
  case round =>
    obtain ⟨k, g, rc, hk, rfl, rfl, hown, hext⟩ := hrel
    have HOwn := Lib.hid hown
    have HExt := Lib.hid hext
    clear hown hext
    by_cases hlt : k < n
    · obtain ⟨b, off, ai, ci, rfl, hc, hri⟩ := HX.out.2 k hlt
      rw [HRL.out k hlt] at hc hri
      obtain ⟨bi, oi, rfl⟩ := hri.addr hm
      have hc' := HExt.out.cell hc
      have HRi := Lib.hid (hri.ext HExt.out)
      clear hc hri
      go_wp2_with (fail)
      refine (s_own bi oi m ci _ _ hm hm2 HRi.out).mono ?_
      rintro e w1 ⟨g1, rc1, rfl, ho1, h1⟩
      have HO1 := Lib.hid ho1
      have H1 := Lib.hid h1
      clear ho1 h1
      go_wp2_with (at_builtin; refine wpList_pushR (w0 := wr) rfl (.tmp 12) (.tmp 18) rfl rfl rfl HOwn.out (H1.out.trans (ext_alloc _ _)) (HO1.out.ext (ext_alloc _ _)) ?hc (by omega) HExt.out.size ?hk)
      case hc => simp
      case hk =>
        intro g' cap' w3 ho3 hg3 he3
        have HO3 := Lib.hid ho3
        have HE3 := Lib.hid (he3 w (Nat.le_refl _) ((HExt.out.trans H1.out).alloc _))
        clear ho3 hg3 he3
        go_wp2_with (fail)
        go_roundw
        case rel => exact ⟨k + 1, g', cap', by omega, by go_num, rfl, by rw [takeR_snoc _ _ (by rw [HX.out.1]; exact hlt)]; exact HO3.out, HE3.out⟩
        case measure => simp [intOf]; omega
    · go_wp2_with (fail)
      go_ret
      obtain rfl : k = n := by omega
      exact ⟨g, rc, rfl, by have := HOwn.out; rwa [List.take_of_length_le (by rw [HX.out.1]; exact Nat.le_refl _)] at this, HExt.out⟩

/-! ### Transposed rows -/
def colL (rows : List (List Int)) (k n : Nat) : List Int := (List.range n).map fun i => nth (nthR rows i) k
theorem colL_succ (rows : List (List Int)) (k n : Nat) : colL rows k (n + 1) = colL rows k n ++ [nth (nthR rows n) k] := by simp [colL, List.range_succ]
theorem colL_len (rows : List (List Int)) (k n : Nat) : (colL rows k n).length = n := by simp [colL]
theorem colL_nth {rows : List (List Int)} {k n i : Nat} (h : i < n) : nth (colL rows k n) i = nth (nthR rows i) k := by
  unfold colL; rw [nth_map (by simpa using h)]; simp
/-- The first m columns of n rows. -/
def turnL (rows : List (List Int)) (n m : Nat) : List (List Int) := (List.range m).map fun k => colL rows k n
theorem turnL_succ (rows : List (List Int)) (n m : Nat) : turnL rows n (m + 1) = turnL rows n m ++ [colL rows m n] := by simp [turnL, List.range_succ]
theorem turnL_len (rows : List (List Int)) (n m : Nat) : (turnL rows n m).length = m := by simp [turnL]
theorem turnL_nth {rows : List (List Int)} {n m k : Nat} (h : k < m) : nthR (turnL rows n m) k = colL rows k n := by
  unfold turnL; rw [nthR_map (by simpa using h)]; simp

set_option maxHeartbeats 2000000 in
theorem c_transpose (a : Option Addr) (n cap m : Nat) (rows : List (List Int)) (w : World) (hn : 0 < n) (hm2 : m ≤ 1048576) (hl : n ≤ 1048576) (hrl : ∀ i, i < n → (nthR rows i).length = m) (hx : RdR w a n rows) :
    Calls Try.prog 166 #[.slice a n cap] w fun e w' => ∃ g rc, e = .returned (.slice (some ⟨g, 0, none⟩) m rc) ∧ OwnR w.heap.size w' (some ⟨g, 0, none⟩) m rc (turnL rows n m) ∧ Ext w w' := by
  have HX := Lib.hid hx
  have HRL := Lib.hid hrl
  obtain ⟨b0, off0, a0, c0, rfl, hc0, _⟩ := hx.2 0 hn
  rw [hrl 0 hn, Nat.add_zero] at hc0
  clear hx hrl
  go_enter Try.func166, Try.ntmps166
  have hc0' : (w.alloc (.cells #[] 24)).cell? ⟨b0, off0, none⟩ = some (.slice a0 m c0) := (ext_alloc w _).cell hc0
  go_wp2_with (fail)
  clear hc0' hc0
  go_loopw [3, 12] (fun v i wr => ∃ (k g rc : Nat), k ≤ m ∧ i = .int .i64 k ∧ v = .slice (some ⟨g, 0, none⟩) k rc ∧ OwnR w.heap.size wr (some ⟨g, 0, none⟩) k rc (turnL rows n k) ∧ Ext w wr) (fun _ i _ => m - (intOf i).toNat)
  case atStart => exact ⟨0, _, _, Nat.zero_le _, rfl, rfl, ownR_empty w, ext_alloc _ _⟩
  case round =>
    obtain ⟨k, g, rc, hk, rfl, rfl, hown, hext⟩ := hrel
    have HOwn := Lib.hid hown
    have HExt := Lib.hid hext
    clear hown hext
    by_cases hlt : k < m
    · go_wp2_with (fail)
      obtain ⟨wo, rfl⟩ : ∃ wo : World, wo = wr := ⟨_, rfl⟩
      go_loopw [5, 18] (fun v i wr => ∃ (j g rc : Nat), j ≤ n ∧ i = .int .i64 j ∧ v = .slice (some ⟨g, 0, none⟩) j rc ∧ OwnC wo.heap.size wr (some ⟨g, 0, none⟩) j rc (colL rows k j) ∧ Ext wo wr) (fun _ i _ => n - (intOf i).toNat)
      case atStart => exact ⟨0, _, _, Nat.zero_le _, rfl, rfl, own_empty wo, ext_alloc _ _⟩
      case round =>
        obtain ⟨j, g1, rc1, hj, rfl, rfl, hown1, hext1⟩ := hrel
        have HOwn1 := Lib.hid hown1
        have HExt1 := Lib.hid hext1
        clear hown1 hext1
        by_cases hlt1 : j < n
        · obtain ⟨b, off, ai, ci, hab, hc, hri⟩ := HX.out.2 j hlt1
          cases hab
          rw [HRL.out j hlt1] at hc hri
          obtain ⟨bi, oi, rfl, hci⟩ := hri.2 k hlt
          have hc' := (HExt.out.trans HExt1.out).cell hc
          have hci' := (HExt.out.trans HExt1.out).cell hci
          clear hc hri hci
          go_wp2_with (at_builtin; refine wpList_push rfl (.tmp 21) (.tmp 29) rfl rfl rfl (v := nth (nthR rows j) k) (HOwn1.out.ext (ext_alloc _ _)) ?hc (by omega) ?hB ?hk)
          case hc => simp
          case hB => have hz := HExt1.out.size'; simp; omega
          case hk =>
            intro g' cap' w3 ho3 hg3 he3
            have HO3 := Lib.hid ho3
            have HE3 := Lib.hid (he3 wo (Nat.le_refl _) (HExt1.out.alloc _))
            clear ho3 hg3 he3
            go_wp2_with (fail)
            go_roundw
            case rel => exact ⟨j + 1, g', cap', by omega, by go_num, rfl, by rw [colL_succ]; exact HO3.out, HE3.out⟩
            case measure => simp [intOf]; omega
        · obtain rfl : j = n := by omega
          go_wp2_with (at_builtin; refine wpList_pushR (w0 := wo) rfl (.tmp 32) (.tmp 34) rfl rfl rfl HOwn.out (HExt1.out.trans (ext_alloc _ _)) (HOwn1.out.ext (ext_alloc _ _)) ?hc (by omega) HExt.out.size ?hk)
          case hc => simp
          case hk =>
            intro g' cap' w3 ho3 hg3 he3
            have HO3 := Lib.hid ho3
            have HE3 := Lib.hid (he3 w (Nat.le_refl _) ((HExt.out.trans HExt1.out).alloc _))
            clear ho3 hg3 he3
            go_wp2_with (fail)
            go_roundw
            case rel => exact ⟨k + 1, g', cap', by omega, by go_num, rfl, by rw [turnL_succ]; exact HO3.out, HE3.out⟩
            case measure => simp [intOf]; omega
    · go_wp2_with (fail)
      go_ret
      obtain rfl : k = m := by omega
      exact ⟨g, rc, rfl, HOwn.out, HExt.out⟩

set_option maxHeartbeats 2000000 in
theorem s_turn (a : Option Addr) (n cap m : Nat) (rows : List (List Int)) (w : World) (hn : 0 < n) (hm2 : m ≤ 1048576) (hl : n ≤ 1048576) (hrl : ∀ i, i < n → (nthR rows i).length = m) (hx : RdR w a n rows) :
    Calls Try.prog 182 #[.slice a n cap] w fun e w' => ∃ g rc, e = .returned (.slice (some ⟨g, 0, none⟩) m rc) ∧ OwnR w.heap.size w' (some ⟨g, 0, none⟩) m rc (turnL rows n m) ∧ Ext w w' := by
  have HX := Lib.hid hx
  have HRL := Lib.hid hrl
  obtain ⟨b0, off0, a0, c0, rfl, hc0, _⟩ := hx.2 0 hn
  rw [hrl 0 hn, Nat.add_zero] at hc0
  have HC0 := Lib.hid hc0
  clear hx hrl hc0
  go_enter Try.func182, Try.ntmps182
  go_wp2_with (fail)
  go_loopw [3, 4] (fun v i wr => ∃ (k g rc : Nat), k ≤ m ∧ i = .int .i64 k ∧ v = .slice (some ⟨g, 0, none⟩) k rc ∧ OwnR w.heap.size wr (some ⟨g, 0, none⟩) k rc (turnL rows n k) ∧ Ext w wr) (fun _ i _ => m - (intOf i).toNat)
  case atStart => exact ⟨0, _, _, Nat.zero_le _, rfl, rfl, ownR_empty w, ext_alloc _ _⟩
  case round =>
    obtain ⟨k, g, rc, hk, rfl, rfl, hown, hext⟩ := hrel
    have HOwn := Lib.hid hown
    have HExt := Lib.hid hext
    have hc0 : wr.cell? ⟨b0, off0, none⟩ = some (.slice a0 m c0) := hext.cell HC0.out
    clear hown hext
    by_cases hlt : k < m
    · go_wp2_with (fail)
      clear hc0
      obtain ⟨wo, rfl⟩ : ∃ wo : World, wo = wr := ⟨_, rfl⟩
      go_loopw [5, 6] (fun v i wr => ∃ (j g rc : Nat), j ≤ n ∧ i = .int .i64 j ∧ v = .slice (some ⟨g, 0, none⟩) j rc ∧ OwnC wo.heap.size wr (some ⟨g, 0, none⟩) j rc (colL rows k j) ∧ Ext wo wr) (fun _ i _ => n - (intOf i).toNat)
      case atStart => exact ⟨0, _, _, Nat.zero_le _, rfl, rfl, own_empty wo, ext_alloc _ _⟩
      case round =>
        obtain ⟨j, g1, rc1, hj, rfl, rfl, hown1, hext1⟩ := hrel
        have HOwn1 := Lib.hid hown1
        have HExt1 := Lib.hid hext1
        clear hown1 hext1
        by_cases hlt1 : j < n
        · obtain ⟨b, off, ai, ci, hab, hc, hri⟩ := HX.out.2 j hlt1
          cases hab
          rw [HRL.out j hlt1] at hc hri
          obtain ⟨bi, oi, rfl, hci⟩ := hri.2 k hlt
          have hc' := (HExt.out.trans HExt1.out).cell hc
          have hci' := (HExt.out.trans HExt1.out).cell hci
          clear hc hri hci
          go_wp2_with (at_builtin; refine wpList_push rfl (.tmp 23) (.tmp 31) rfl rfl rfl (v := nth (nthR rows j) k) (HOwn1.out.ext (ext_alloc _ _)) ?hc (by omega) ?hB ?hk)
          case hc => simp
          case hB => have hz := HExt1.out.size'; simp; omega
          case hk =>
            intro g' cap' w3 ho3 hg3 he3
            have HO3 := Lib.hid ho3
            have HE3 := Lib.hid (he3 wo (Nat.le_refl _) (HExt1.out.alloc _))
            clear ho3 hg3 he3
            go_wp2_with (fail)
            go_roundw
            case rel => exact ⟨j + 1, g', cap', by omega, by go_num, rfl, by rw [colL_succ]; exact HO3.out, HE3.out⟩
            case measure => simp [intOf]; omega
        · obtain rfl : j = n := by omega
          go_wp2_with (at_builtin; refine wpList_pushR (w0 := wo) rfl (.tmp 33) (.tmp 35) rfl rfl rfl HOwn.out (HExt1.out.trans (ext_alloc _ _)) (HOwn1.out.ext (ext_alloc _ _)) ?hc (by omega) HExt.out.size ?hk)
          case hc => simp
          case hk =>
            intro g' cap' w3 ho3 hg3 he3
            have HO3 := Lib.hid ho3
            have HE3 := Lib.hid (he3 w (Nat.le_refl _) ((HExt.out.trans HExt1.out).alloc _))
            clear ho3 hg3 he3
            go_wp2_with (fail)
            go_roundw
            case rel => exact ⟨k + 1, g', cap', by omega, by go_num, rfl, by rw [turnL_succ]; exact HO3.out, HE3.out⟩
            case measure => simp [intOf]; omega
    · go_wp2_with (fail)
      go_ret
      obtain rfl : k = m := by omega
      exact ⟨g, rc, rfl, HOwn.out, HExt.out⟩

/-! ### Unit rows -/
def unitL (n k : Nat) : List (List Int) := (List.range k).map fun i => bladeL n i
theorem unitL_succ (n k : Nat) : unitL n (k + 1) = unitL n k ++ [bladeL n k] := by simp [unitL, List.range_succ]
theorem unitL_len (n k : Nat) : (unitL n k).length = k := by simp [unitL]
theorem unitL_nth {n k i : Nat} (h : i < k) : nthR (unitL n k) i = bladeL n i := by
  unfold unitL; rw [nthR_map (by simpa using h)]; simp
set_option maxHeartbeats 1000000 in
theorem c_unit (n : Nat) (w : World) (hl : n ≤ 1048576) :
    Calls Try.prog 199 #[.int .i64 n] w fun e w' => ∃ g rc, e = .returned (.slice (some ⟨g, 0, none⟩) n rc) ∧ OwnR w.heap.size w' (some ⟨g, 0, none⟩) n rc (unitL n n) ∧ Ext w w' := by
  go_enter Try.func199, Try.ntmps199
  go_wp2_with (fail)
  go_loopw [3, 8] (fun v i wr => ∃ (k g rc : Nat), k ≤ n ∧ i = .int .i64 k ∧ v = .slice (some ⟨g, 0, none⟩) k rc ∧ OwnR w.heap.size wr (some ⟨g, 0, none⟩) k rc (unitL n k) ∧ Ext w wr) (fun _ i _ => n - (intOf i).toNat)
  case atStart => exact ⟨0, _, _, Nat.zero_le _, rfl, rfl, ownR_empty w, ext_alloc _ _⟩
  case round =>
    obtain ⟨k, g, rc, hk, rfl, rfl, hown, hext⟩ := hrel
    have HOwn := Lib.hid hown
    have HExt := Lib.hid hext
    clear hown hext
    by_cases hlt : k < n
    · obtain ⟨w0, hmk, hown0, hext0⟩ := make_ints wr n (by omega)
      obtain ⟨g0, hg0⟩ : ∃ g, g = wr.heap.size := ⟨_, rfl⟩
      rw [← hg0] at hmk hown0
      have HG0 := Lib.hid hg0
      have hge : wr.heap.size ≤ g0 := by omega
      have HO0 := Lib.hid hown0
      have HE0 := Lib.hid hext0
      have hcg := hown0.cell hlt
      have hfz := hown0.frozen k
      clear hown0 hext0 hg0
      go_wp2_with (at_builtin; refine wpList_pushR (w0 := wr) rfl (.tmp 16) (.tmp 18) rfl rfl rfl HOwn.out ((HE0.out.setCell hge _).trans (ext_alloc _ _)) (xs := bladeL n k) (((HO0.out.store hlt 1).mono hge).ext (ext_alloc _ _)) ?hc (by omega) HExt.out.size ?hk)
      case hc => exact cell_new _ _ (by simp) _ _
      case hk =>
        intro g' cap' w3 ho3 hg3 he3
        have HO3 := Lib.hid ho3
        have HE3 := Lib.hid (he3 w (Nat.le_refl _) ((HExt.out.trans (HE0.out.setCell hge _)).alloc _))
        clear ho3 hg3 he3
        go_wp2_with (fail)
        go_roundw
        case rel => exact ⟨k + 1, g', cap', by omega, by go_num, rfl, by rw [unitL_succ]; exact HO3.out, HE3.out⟩
        case measure => simp [intOf]; omega
    · go_wp2_with (fail)
      go_ret
      obtain rfl : k = n := by omega
      exact ⟨g, rc, rfl, HOwn.out, HExt.out⟩
end Go.Proofs.Ytbgnfjckbjmgbaa
