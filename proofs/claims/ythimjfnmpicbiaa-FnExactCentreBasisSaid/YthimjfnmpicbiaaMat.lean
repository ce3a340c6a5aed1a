/-
  Matrices of the multiplications by a multivector; the listed functions LeftMatrix and RightMatrix.
  No condition.
-/
import Derived.Test.YthimjfnmpicbiaaRowsC
import Derived.Test.YthimjfnmpicbiaaRows3
import Derived.Test.YthimjfnmpicbiaaUndual
import Derived.Test.YthimjfnmpicbiaaGauss
import Derived.Test.YthimjfnmpicbiaaIdem
import Derived.Test.YthimjfnmpicbiaaLawR
namespace Go.Proofs.Ythimjfnmpicbiaa
set_option maxRecDepth 100000
open Go.RowKit

/-- The product of a multivector, on one side, and a blade. -/
def mulC (p : Int) (qs x : List Int) (left : Bool) (m : Nat) : List Int := if left = true then prodL p qs tkA x (bladeL (2 ^ qs.length) m) else prodL p qs tkA (bladeL (2 ^ qs.length) m) x
def colsM (p : Int) (qs x : List Int) (left : Bool) (k : Nat) : List (List Int) := (List.range k).map (mulC p qs x left)
theorem colsM_succ (p : Int) (qs x : List Int) (left : Bool) (k : Nat) : colsM p qs x left (k + 1) = colsM p qs x left k ++ [mulC p qs x left k] := by simp [colsM, List.range_succ]
theorem colsM_len (p : Int) (qs x : List Int) (left : Bool) (k : Nat) : (colsM p qs x left k).length = k := by simp [colsM]
theorem mulC_good {p : Int} {qs x : List Int} {left : Bool} {m : Nat} (hp : 1 ≤ p) : Good p (2 ^ qs.length) (mulC p qs x left m) := by unfold mulC; split <;> exact prod_good hp
theorem colsM_nth {p : Int} {qs x : List Int} {left : Bool} {k i : Nat} (h : i < k) : nthR (colsM p qs x left k) i = mulC p qs x left i := by
  unfold colsM; rw [nthR_map (by simpa using h)]; simp
/-- The matrix of a multiplication. -/
def matM (p : Int) (qs x : List Int) (left : Bool) : List (List Int) := turnL (colsM p qs x left (2 ^ qs.length)) (2 ^ qs.length) (2 ^ qs.length)
theorem matM_len (p : Int) (qs x : List Int) (left : Bool) : (matM p qs x left).length = 2 ^ qs.length := turnL_len _ _ _
theorem matM_good {p : Int} {qs x : List Int} {left : Bool} (hp : 1 ≤ p) : RowsG p (2 ^ qs.length) (matM p qs x left) := fun i hi => by
  rw [matM_len] at hi
  unfold matM
  rw [turnL_nth hi]
  refine ⟨colL_len _ _ _, fun j hj => ?_⟩
  rw [colL_nth hj, colsM_nth hj]
  exact (mulC_good hp).2 i hi

set_option maxHeartbeats 400000 in
theorem c_blades {N d : Nat} (hN : N = 2 ^ d) (p : Int) (a : Option Addr) (cap : Nat) (w : World) (hd : d ≤ 6) :
    Calls Try.prog 179 #[.agg #[.int .i64 p, .slice a d cap]] w fun e w' => ∃ g rc, e = .returned (.slice (some ⟨g, 0, none⟩) N rc) ∧ OwnR w.heap.size w' (some ⟨g, 0, none⟩) N rc (unitL N N) ∧ Ext w w' := by
  have hw : wrap64 (2 ^ d) = (N : Int) := by rw [hN]; exact pow_wrap hd
  have hw2 : IntKind.i64.wrap (2 ^ d) = (N : Int) := by rw [hN]; exact pow_wrapI hd
  have hN64 : N ≤ 64 := by rw [hN]; exact pow_le64 hd
  have HN := Lib.hid hN
  clear hN
  go_enter Try.func179, Try.ntmps179
  go_wp2_with (first | (go_at_call 93; refine (c_dim _ _ _ _ _).mono ?_; rintro e w1 ⟨rfl, h1⟩) | (go_at_call 105; refine (c_unit N _ (by omega)).mono ?_; rintro e w2 ⟨g, rc, rfl, ho, h2⟩; have HO := Lib.hid (ho.mono ((ext_alloc _ _).trans h1).size); have H2 := Lib.hid (((ext_alloc _ _).trans h1).trans h2); clear ho h2))
  go_ret
  exact ⟨_, _, rfl, HO.out, H2.out⟩

set_option maxHeartbeats 2000000 in
theorem c_leftMatrix {N d : Nat} (hN : N = 2 ^ d) (p : Int) (a : Option Addr) (cap : Nat) (qs : List Int) (ax : Option Addr) (cx : Nat) (x : List Int) (w : World) (hd : d ≤ 6) (hp1 : 3 ≤ p) (hp2 : p ≤ 1000) (hq : RdC w a d qs) (hqb : isB p qs = true) (hx : RdC w ax N x) (hgx : Good p N x) :
    Calls Try.prog 108 #[.agg #[.int .i64 p, .slice a d cap], .slice ax N cx] w fun e w' => ∃ g rc, e = .returned (.slice (some ⟨g, 0, none⟩) N rc) ∧ OwnR w.heap.size w' (some ⟨g, 0, none⟩) N rc (matM p qs x true) ∧ Ext w w' := by
  have hN64 : N ≤ 64 := by rw [hN]; exact pow_le64 hd
  have hN1 : 0 < N := by rw [hN]; exact pow_pos' d
  have HN := Lib.hid hN
  have HX := Lib.hid hx
  have HQ := Lib.hid hq
  have HQB := Lib.hid hqb
  have HGX := Lib.hid hgx
  have HD := Lib.hid (show N = 2 ^ qs.length by rw [hq.1]; exact hN)
  clear hN hx hq hqb hgx
  obtain ⟨W, hW⟩ : ∃ W, W = w.alloc (.cells #[.int .i64 p, .slice a d cap] 30) := ⟨_, rfl⟩
  have gW : Ext w W := by rw [hW]; exact ext_alloc _ _
  have hs0 : W.cell? ⟨w.heap.size, 0, none⟩ = some (.int .i64 p) := by rw [hW]; simp
  have hs1 : W.cell? ⟨w.heap.size, 1, none⟩ = some (.slice a d cap) := by rw [hW]; simp
  have HS0 := Lib.hid (hs0)
  have HS1 := Lib.hid (hs1)
  have GW := Lib.hid (gW)
  have HW := Lib.hid hW
  clear hs0 hs1 gW hW
  go_enter Try.func108, Try.ntmps108
  go_wp2_with (fail)
  rw [← HW.out]
  have hs0 := (ext_alloc W (.cells #[] 22)).cell HS0.out
  have hs1 := (ext_alloc W (.cells #[] 22)).cell HS1.out
  go_wp2_with (fail)
  refine (c_blades HN.out p a cap _ hd).mono ?_
  rintro e w1 ⟨gu, ru, rfl, hu, h1⟩
  have HU := Lib.hid hu
  have G1 := Lib.hid ((ext_alloc W (.cells #[] 22)).trans h1)
  clear hu h1 hs0 hs1
  go_wp2_with (fail)
  go_loopw [5, 12] (fun v i wr => ∃ (k g rc : Nat), k ≤ N ∧ i = .int .i64 k ∧ v = .slice (some ⟨g, 0, none⟩) k rc ∧ OwnW w1.heap.size wr (some ⟨g, 0, none⟩) k rc (colsM p qs x true k) ∧ Ext w1 wr) (fun _ i _ => N - (intOf i).toNat)
  case atStart => exact ⟨0, _, _, Nat.zero_le _, rfl, rfl, OwnW.start _ _ _, Ext.refl _⟩
  case round =>
    obtain ⟨k, g, rc, hk, rfl, rfl, hown, hext⟩ := hrel
    have HOwn := Lib.hid hown
    have HExt := Lib.hid hext
    clear hown hext
    by_cases hlt : k < N
    · obtain ⟨ak, ck, hck, hok⟩ := HU.out.at hlt
      rw [unitL_nth hlt, bladeL_len] at hck hok
      have hck' := HExt.out.cell hck
      have hs0 := (G1.out.trans HExt.out).cell HS0.out
      have hs1 := (G1.out.trans HExt.out).cell HS1.out
      have HRk := Lib.hid hok.rd
      have HGB := Lib.hid (show Good p N (bladeL N k) from blade_good hp1)
      clear hck hok
      go_wp2_with (fail)
      clear hs0 hs1 hck'
      refine (c_timesN HN.out p a cap qs _ 2 _ [x, bladeL N k] (wr.alloc (.cells #[.slice ax N cx, .slice ak N ck] 22)) hd hp1 hp2 (by omega) (HQ.out.ext ((GW.out.trans (G1.out.trans HExt.out)).alloc _)) HQB.out (rdR_two (a := ax) (b := ak) (n := N) (m := N) (ca := cx) (cb := ck) (by simp) (by simp) (HX.out.ext ((GW.out.trans (G1.out.trans HExt.out)).alloc _)) (HRk.out.ext (HExt.out.alloc _))) (good_two HGX.out HGB.out)).mono ?_
      rintro e w4 ⟨g4, rfl, ho4, x4⟩
      rw [(prod_two HD.out hp1 HGX.out)] at ho4
      have HO4 := Lib.hid (ho4.mono (B' := wr.heap.size) (by simp))
      have X4 := Lib.hid ((ext_alloc wr (.cells #[.slice ax N cx, .slice ak N ck] 22)).trans x4)
      clear ho4 x4
      go_wp2_with (at_builtin; refine wpList_pushRW (w0 := wr) rfl (.tmp 16) (.tmp 22) rfl rfl rfl HOwn.out (X4.out.trans (ext_alloc _ _)) (HO4.out.ext (ext_alloc _ _)) ?hc (by omega) HExt.out.size ?hk)
      case hc => exact cell_new _ _ rfl _ _
      case hk =>
        intro g' cap' w3 ho3 he3
        have HO3 := Lib.hid ho3
        have HE4 := Lib.hid (he3 w1 (Nat.le_refl _) ((HExt.out.trans X4.out).alloc _))
        clear ho3 he3
        go_wp2_with (fail)
        go_roundw
        case rel => exact ⟨k + 1, g', cap', by omega, by go_num, rfl, by rw [colsM_succ, mulC, if_pos rfl, ← HD.out]; exact .inr HO3.out, HE4.out⟩
        case measure => simp [intOf]; omega
    · obtain rfl : k = N := by omega
      go_wp2_with (fail)
      refine (c_transpose _ k rc k _ wr hN1 (by omega) (by omega) (fun i hi => by rw [colsM_nth hi, (mulC_good (by omega)).1, ← HD.out]) HOwn.out.rd).mono ?_
      rintro e w5 ⟨g5, r5, rfl, ho5, x5⟩
      have HO5 := Lib.hid (ho5.mono (B' := w.heap.size) (GW.out.trans (G1.out.trans HExt.out)).size)
      have X5 := Lib.hid ((GW.out.trans (G1.out.trans HExt.out)).trans x5)
      clear ho5 x5
      go_wp2_with (fail)
      go_ret
      exact ⟨_, _, rfl, by unfold matM; rw [← HD.out]; exact HO5.out, X5.out⟩

set_option maxHeartbeats 2000000 in
theorem c_rightMatrix {N d : Nat} (hN : N = 2 ^ d) (p : Int) (a : Option Addr) (cap : Nat) (qs : List Int) (ax : Option Addr) (cx : Nat) (x : List Int) (w : World) (hd : d ≤ 6) (hp1 : 3 ≤ p) (hp2 : p ≤ 1000) (hq : RdC w a d qs) (hqb : isB p qs = true) (hx : RdC w ax N x) (hgx : Good p N x) :
    Calls Try.prog 101 #[.agg #[.int .i64 p, .slice a d cap], .slice ax N cx] w fun e w' => ∃ g rc, e = .returned (.slice (some ⟨g, 0, none⟩) N rc) ∧ OwnR w.heap.size w' (some ⟨g, 0, none⟩) N rc (matM p qs x false) ∧ Ext w w' := by
  have hN64 : N ≤ 64 := by rw [hN]; exact pow_le64 hd
  have hN1 : 0 < N := by rw [hN]; exact pow_pos' d
  have HN := Lib.hid hN
  have HX := Lib.hid hx
  have HQ := Lib.hid hq
  have HQB := Lib.hid hqb
  have HGX := Lib.hid hgx
  have HD := Lib.hid (show N = 2 ^ qs.length by rw [hq.1]; exact hN)
  clear hN hx hq hqb hgx
  obtain ⟨W, hW⟩ : ∃ W, W = w.alloc (.cells #[.int .i64 p, .slice a d cap] 30) := ⟨_, rfl⟩
  have gW : Ext w W := by rw [hW]; exact ext_alloc _ _
  have hs0 : W.cell? ⟨w.heap.size, 0, none⟩ = some (.int .i64 p) := by rw [hW]; simp
  have hs1 : W.cell? ⟨w.heap.size, 1, none⟩ = some (.slice a d cap) := by rw [hW]; simp
  have HS0 := Lib.hid (hs0)
  have HS1 := Lib.hid (hs1)
  have GW := Lib.hid (gW)
  have HW := Lib.hid hW
  clear hs0 hs1 gW hW
  go_enter Try.func101, Try.ntmps101
  go_wp2_with (fail)
  rw [← HW.out]
  have hs0 := (ext_alloc W (.cells #[] 22)).cell HS0.out
  have hs1 := (ext_alloc W (.cells #[] 22)).cell HS1.out
  go_wp2_with (fail)
  refine (c_blades HN.out p a cap _ hd).mono ?_
  rintro e w1 ⟨gu, ru, rfl, hu, h1⟩
  have HU := Lib.hid hu
  have G1 := Lib.hid ((ext_alloc W (.cells #[] 22)).trans h1)
  clear hu h1 hs0 hs1
  go_wp2_with (fail)
  go_loopw [5, 12] (fun v i wr => ∃ (k g rc : Nat), k ≤ N ∧ i = .int .i64 k ∧ v = .slice (some ⟨g, 0, none⟩) k rc ∧ OwnW w1.heap.size wr (some ⟨g, 0, none⟩) k rc (colsM p qs x false k) ∧ Ext w1 wr) (fun _ i _ => N - (intOf i).toNat)
  case atStart => exact ⟨0, _, _, Nat.zero_le _, rfl, rfl, OwnW.start _ _ _, Ext.refl _⟩
  case round =>
    obtain ⟨k, g, rc, hk, rfl, rfl, hown, hext⟩ := hrel
    have HOwn := Lib.hid hown
    have HExt := Lib.hid hext
    clear hown hext
    by_cases hlt : k < N
    · obtain ⟨ak, ck, hck, hok⟩ := HU.out.at hlt
      rw [unitL_nth hlt, bladeL_len] at hck hok
      have hck' := HExt.out.cell hck
      have hs0 := (G1.out.trans HExt.out).cell HS0.out
      have hs1 := (G1.out.trans HExt.out).cell HS1.out
      have HRk := Lib.hid hok.rd
      have HGB := Lib.hid (show Good p N (bladeL N k) from blade_good hp1)
      clear hck hok
      go_wp2_with (fail)
      clear hs0 hs1 hck'
      refine (c_timesN HN.out p a cap qs _ 2 _ [bladeL N k, x] (wr.alloc (.cells #[.slice ak N ck, .slice ax N cx] 22)) hd hp1 hp2 (by omega) (HQ.out.ext ((GW.out.trans (G1.out.trans HExt.out)).alloc _)) HQB.out (rdR_two (a := ak) (b := ax) (n := N) (m := N) (ca := ck) (cb := cx) (by simp) (by simp) (HRk.out.ext (HExt.out.alloc _)) (HX.out.ext ((GW.out.trans (G1.out.trans HExt.out)).alloc _))) (good_two HGB.out HGX.out)).mono ?_
      rintro e w4 ⟨g4, rfl, ho4, x4⟩
      rw [(prod_two HD.out hp1 HGB.out)] at ho4
      have HO4 := Lib.hid (ho4.mono (B' := wr.heap.size) (by simp))
      have X4 := Lib.hid ((ext_alloc wr (.cells #[.slice ak N ck, .slice ax N cx] 22)).trans x4)
      clear ho4 x4
      go_wp2_with (at_builtin; refine wpList_pushRW (w0 := wr) rfl (.tmp 16) (.tmp 22) rfl rfl rfl HOwn.out (X4.out.trans (ext_alloc _ _)) (HO4.out.ext (ext_alloc _ _)) ?hc (by omega) HExt.out.size ?hk)
      case hc => exact cell_new _ _ rfl _ _
      case hk =>
        intro g' cap' w3 ho3 he3
        have HO3 := Lib.hid ho3
        have HE4 := Lib.hid (he3 w1 (Nat.le_refl _) ((HExt.out.trans X4.out).alloc _))
        clear ho3 he3
        go_wp2_with (fail)
        go_roundw
        case rel => exact ⟨k + 1, g', cap', by omega, by go_num, rfl, by rw [colsM_succ, mulC, if_neg (by simp), ← HD.out]; exact .inr HO3.out, HE4.out⟩
        case measure => simp [intOf]; omega
    · obtain rfl : k = N := by omega
      go_wp2_with (fail)
      refine (c_transpose _ k rc k _ wr hN1 (by omega) (by omega) (fun i hi => by rw [colsM_nth hi, (mulC_good (by omega)).1, ← HD.out]) HOwn.out.rd).mono ?_
      rintro e w5 ⟨g5, r5, rfl, ho5, x5⟩
      have HO5 := Lib.hid (ho5.mono (B' := w.heap.size) (GW.out.trans (G1.out.trans HExt.out)).size)
      have X5 := Lib.hid ((GW.out.trans (G1.out.trans HExt.out)).trans x5)
      clear ho5 x5
      go_wp2_with (fail)
      go_ret
      exact ⟨_, _, rfl, by unfold matM; rw [← HD.out]; exact HO5.out, X5.out⟩

set_option maxHeartbeats 2000000 in
theorem s_leftMatrix {N d : Nat} (hN : N = 2 ^ d) (p : Int) (a : Option Addr) (cap : Nat) (qs : List Int) (ax : Option Addr) (cx : Nat) (x : List Int) (w : World) (hd : d ≤ 6) (hp1 : 3 ≤ p) (hp2 : p ≤ 1000) (hq : RdC w a d qs) (hqb : isB p qs = true) (hx : RdC w ax N x) (hgx : Good p N x) :
    Calls Try.prog 103 #[.agg #[.int .i64 p, .slice a d cap], .slice ax N cx] w fun e w' => ∃ g rc, e = .returned (.slice (some ⟨g, 0, none⟩) N rc) ∧ OwnR w.heap.size w' (some ⟨g, 0, none⟩) N rc (matM p qs x true) ∧ Ext w w' := by
  have hN64 : N ≤ 64 := by rw [hN]; exact pow_le64 hd
  have hN1 : 0 < N := by rw [hN]; exact pow_pos' d
  have HN := Lib.hid hN
  have HX := Lib.hid hx
  have HQ := Lib.hid hq
  have HQB := Lib.hid hqb
  have HGX := Lib.hid hgx
  have HD := Lib.hid (show N = 2 ^ qs.length by rw [hq.1]; exact hN)
  clear hN hx hq hqb hgx
  obtain ⟨W, hW⟩ : ∃ W, W = w.alloc (.cells #[.int .i64 p, .slice a d cap] 30) := ⟨_, rfl⟩
  have gW : Ext w W := by rw [hW]; exact ext_alloc _ _
  have hs0 : W.cell? ⟨w.heap.size, 0, none⟩ = some (.int .i64 p) := by rw [hW]; simp
  have hs1 : W.cell? ⟨w.heap.size, 1, none⟩ = some (.slice a d cap) := by rw [hW]; simp
  have HS0 := Lib.hid (hs0)
  have HS1 := Lib.hid (hs1)
  have GW := Lib.hid (gW)
  have HW := Lib.hid hW
  clear hs0 hs1 gW hW
  go_enter Try.func103, Try.ntmps103
  go_wp2_with (fail)
  rw [← HW.out]
  go_wp2_with (fail)
  go_loopw [5, 6] (fun v i wr => ∃ (k g rc : Nat), k ≤ N ∧ i = .int .i64 k ∧ v = .slice (some ⟨g, 0, none⟩) k rc ∧ OwnW W.heap.size wr (some ⟨g, 0, none⟩) k rc (colsM p qs x true k) ∧ Ext W wr) (fun _ i _ => N - (intOf i).toNat)
  case atStart => exact ⟨0, _, _, Nat.zero_le _, rfl, rfl, OwnW.start _ _ _, ext_alloc _ _⟩
  case round =>
    obtain ⟨k, g, rc, hk, rfl, rfl, hown, hext⟩ := hrel
    have HOwn := Lib.hid hown
    have HExt := Lib.hid hext
    have hs0 := hext.cell HS0.out
    have hs1 := hext.cell HS1.out
    clear hown hext
    by_cases hlt : k < N
    · have HGB := Lib.hid (show Good p N (bladeL N k) from blade_good hp1)
      go_wp2_with (first | (go_at_call 174; refine (s_size _ _ _ _ _ hd).mono ?_; rintro e w2 ⟨rfl, g2⟩; rw [← HN.out]; have hs0b := g2.cell hs0; have hs1b := g2.cell hs1; have G2 := Lib.hid g2; clear g2))
      refine (s_zeroN HN.out p a cap _ hd).mono ?_
      rintro e w3 ⟨g0, rfl, ho0, h0⟩
      have HO0 := Lib.hid ho0
      have HE0 := Lib.hid (G2.out.trans h0)
      have hge : wr.heap.size ≤ g0 := Nat.le_trans G2.out.size ho0.base_le.1
      have hcg := ho0.cell hlt
      have hfz := ho0.frozen k
      have hs0c := h0.cell hs0b
      have hs1c := h0.cell hs1b
      have hl0 : w.heap.size < g0 := by have hb0 : w.heap.size < W.heap.size := lt_of_cell HS0.out; have := HExt.out.size'; omega
      clear ho0 h0 hs0 hs1 hs0b hs1b
      go_wp2_with (fail)
      clear hs0c hs1c hcg hfz
      refine (s_timesN HN.out p a cap qs ax (some ⟨g0, 0, none⟩) cx N x (bladeL N k) _ hd hp1 hp2 (HQ.out.ext ((GW.out.trans HExt.out).trans (HE0.out.setCell hge _))) HQB.out (HX.out.ext ((GW.out.trans HExt.out).trans (HE0.out.setCell hge _))) (HO0.out.store hlt 1).rd HGX.out.isB HGB.out.isB).mono ?_
      rintro e w4 ⟨g4, rfl, ho4, x4⟩
      have HO4 := Lib.hid (ho4.mono (B' := wr.heap.size) (HE0.out.setCell hge _).size)
      have X4 := Lib.hid ((HE0.out.setCell hge (.int .i64 1)).trans x4)
      clear ho4 x4
      go_wp2_with (at_builtin; refine wpList_pushRW (w0 := wr) rfl (.tmp 20) (.tmp 25) rfl rfl rfl HOwn.out (X4.out.trans (ext_alloc _ _)) (HO4.out.ext (ext_alloc _ _)) ?hc (by omega) HExt.out.size ?hk)
      case hc => exact cell_new _ _ rfl _ _
      case hk =>
        intro g' cap' w5 ho5 he5
        have HO5 := Lib.hid ho5
        have HE5 := Lib.hid (he5 W (Nat.le_refl _) ((HExt.out.trans X4.out).alloc _))
        clear ho5 he5
        go_wp2_with (fail)
        go_roundw
        case rel => exact ⟨k + 1, g', cap', by omega, by go_num, rfl, by rw [colsM_succ, mulC, if_pos rfl, ← HD.out]; exact .inr HO5.out, HE5.out⟩
        case measure => simp [intOf]; omega
    · obtain rfl : k = N := by omega
      go_wp2_with (first | (go_at_call 174; refine (s_size _ _ _ _ _ hd).mono ?_; rintro e w2 ⟨rfl, g2⟩; rw [← HN.out]; have G2 := Lib.hid g2; clear g2))
      clear hs0 hs1
      refine (s_turn _ k rc k _ w2 hN1 (by omega) (by omega) (fun i hi => by rw [colsM_nth hi, (mulC_good (by omega)).1, ← HD.out]) (HOwn.out.rd.ext G2.out)).mono ?_
      rintro e w5 ⟨g5, r5, rfl, ho5, x5⟩
      have HO5 := Lib.hid (ho5.mono (B' := w.heap.size) (GW.out.trans (HExt.out.trans G2.out)).size)
      have X5 := Lib.hid ((GW.out.trans (HExt.out.trans G2.out)).trans x5)
      clear ho5 x5
      go_wp2_with (fail)
      go_ret
      exact ⟨_, _, rfl, by unfold matM; rw [← HD.out]; exact HO5.out, X5.out⟩

set_option maxHeartbeats 2000000 in
theorem s_rightMatrix {N d : Nat} (hN : N = 2 ^ d) (p : Int) (a : Option Addr) (cap : Nat) (qs : List Int) (ax : Option Addr) (cx : Nat) (x : List Int) (w : World) (hd : d ≤ 6) (hp1 : 3 ≤ p) (hp2 : p ≤ 1000) (hq : RdC w a d qs) (hqb : isB p qs = true) (hx : RdC w ax N x) (hgx : Good p N x) :
    Calls Try.prog 97 #[.agg #[.int .i64 p, .slice a d cap], .slice ax N cx] w fun e w' => ∃ g rc, e = .returned (.slice (some ⟨g, 0, none⟩) N rc) ∧ OwnR w.heap.size w' (some ⟨g, 0, none⟩) N rc (matM p qs x false) ∧ Ext w w' := by
  have hN64 : N ≤ 64 := by rw [hN]; exact pow_le64 hd
  have hN1 : 0 < N := by rw [hN]; exact pow_pos' d
  have HN := Lib.hid hN
  have HX := Lib.hid hx
  have HQ := Lib.hid hq
  have HQB := Lib.hid hqb
  have HGX := Lib.hid hgx
  have HD := Lib.hid (show N = 2 ^ qs.length by rw [hq.1]; exact hN)
  clear hN hx hq hqb hgx
  obtain ⟨W, hW⟩ : ∃ W, W = w.alloc (.cells #[.int .i64 p, .slice a d cap] 30) := ⟨_, rfl⟩
  have gW : Ext w W := by rw [hW]; exact ext_alloc _ _
  have hs0 : W.cell? ⟨w.heap.size, 0, none⟩ = some (.int .i64 p) := by rw [hW]; simp
  have hs1 : W.cell? ⟨w.heap.size, 1, none⟩ = some (.slice a d cap) := by rw [hW]; simp
  have HS0 := Lib.hid (hs0)
  have HS1 := Lib.hid (hs1)
  have GW := Lib.hid (gW)
  have HW := Lib.hid hW
  clear hs0 hs1 gW hW
  go_enter Try.func97, Try.ntmps97
  go_wp2_with (fail)
  rw [← HW.out]
  go_wp2_with (fail)
  go_loopw [5, 6] (fun v i wr => ∃ (k g rc : Nat), k ≤ N ∧ i = .int .i64 k ∧ v = .slice (some ⟨g, 0, none⟩) k rc ∧ OwnW W.heap.size wr (some ⟨g, 0, none⟩) k rc (colsM p qs x false k) ∧ Ext W wr) (fun _ i _ => N - (intOf i).toNat)
  case atStart => exact ⟨0, _, _, Nat.zero_le _, rfl, rfl, OwnW.start _ _ _, ext_alloc _ _⟩
  case round =>
    obtain ⟨k, g, rc, hk, rfl, rfl, hown, hext⟩ := hrel
    have HOwn := Lib.hid hown
    have HExt := Lib.hid hext
    have hs0 := hext.cell HS0.out
    have hs1 := hext.cell HS1.out
    clear hown hext
    by_cases hlt : k < N
    · have HGB := Lib.hid (show Good p N (bladeL N k) from blade_good hp1)
      go_wp2_with (first | (go_at_call 174; refine (s_size _ _ _ _ _ hd).mono ?_; rintro e w2 ⟨rfl, g2⟩; rw [← HN.out]; have hs0b := g2.cell hs0; have hs1b := g2.cell hs1; have G2 := Lib.hid g2; clear g2))
      refine (s_zeroN HN.out p a cap _ hd).mono ?_
      rintro e w3 ⟨g0, rfl, ho0, h0⟩
      have HO0 := Lib.hid ho0
      have HE0 := Lib.hid (G2.out.trans h0)
      have hge : wr.heap.size ≤ g0 := Nat.le_trans G2.out.size ho0.base_le.1
      have hcg := ho0.cell hlt
      have hfz := ho0.frozen k
      have hs0c := h0.cell hs0b
      have hs1c := h0.cell hs1b
      have hl0 : w.heap.size < g0 := by have hb0 : w.heap.size < W.heap.size := lt_of_cell HS0.out; have := HExt.out.size'; omega
      clear ho0 h0 hs0 hs1 hs0b hs1b
      go_wp2_with (fail)
      clear hs0c hs1c hcg hfz
      refine (s_timesN HN.out p a cap qs (some ⟨g0, 0, none⟩) ax N cx (bladeL N k) x _ hd hp1 hp2 (HQ.out.ext ((GW.out.trans HExt.out).trans (HE0.out.setCell hge _))) HQB.out (HO0.out.store hlt 1).rd (HX.out.ext ((GW.out.trans HExt.out).trans (HE0.out.setCell hge _))) HGB.out.isB HGX.out.isB).mono ?_
      rintro e w4 ⟨g4, rfl, ho4, x4⟩
      have HO4 := Lib.hid (ho4.mono (B' := wr.heap.size) (HE0.out.setCell hge _).size)
      have X4 := Lib.hid ((HE0.out.setCell hge (.int .i64 1)).trans x4)
      clear ho4 x4
      go_wp2_with (at_builtin; refine wpList_pushRW (w0 := wr) rfl (.tmp 20) (.tmp 25) rfl rfl rfl HOwn.out (X4.out.trans (ext_alloc _ _)) (HO4.out.ext (ext_alloc _ _)) ?hc (by omega) HExt.out.size ?hk)
      case hc => exact cell_new _ _ rfl _ _
      case hk =>
        intro g' cap' w5 ho5 he5
        have HO5 := Lib.hid ho5
        have HE5 := Lib.hid (he5 W (Nat.le_refl _) ((HExt.out.trans X4.out).alloc _))
        clear ho5 he5
        go_wp2_with (fail)
        go_roundw
        case rel => exact ⟨k + 1, g', cap', by omega, by go_num, rfl, by rw [colsM_succ, mulC, if_neg (by simp), ← HD.out]; exact .inr HO5.out, HE5.out⟩
        case measure => simp [intOf]; omega
    · obtain rfl : k = N := by omega
      go_wp2_with (first | (go_at_call 174; refine (s_size _ _ _ _ _ hd).mono ?_; rintro e w2 ⟨rfl, g2⟩; rw [← HN.out]; have G2 := Lib.hid g2; clear g2))
      clear hs0 hs1
      refine (s_turn _ k rc k _ w2 hN1 (by omega) (by omega) (fun i hi => by rw [colsM_nth hi, (mulC_good (by omega)).1, ← HD.out]) (HOwn.out.rd.ext G2.out)).mono ?_
      rintro e w5 ⟨g5, r5, rfl, ho5, x5⟩
      have HO5 := Lib.hid (ho5.mono (B' := w.heap.size) (GW.out.trans (HExt.out.trans G2.out)).size)
      have X5 := Lib.hid ((GW.out.trans (HExt.out.trans G2.out)).trans x5)
      clear ho5 x5
      go_wp2_with (fail)
      go_ret
      exact ⟨_, _, rfl, by unfold matM; rw [← HD.out]; exact HO5.out, X5.out⟩

theorem cnt_good {p : Int} {m : Nat} {rows : List (List Int)} (h : RowsG p m rows) : ∀ k, k ≤ rows.length → cntR rows k = k * m
  | 0, _ => by simp [cntR]
  | k + 1, hk => by
    show cntR rows k + _ = _
    rw [cnt_good h k (by omega), (h k (by omega)).1, Nat.succ_mul]
theorem matM_cnt {p : Int} {a : Option Addr} {d : Nat} {qs : List Int} {ax1 : Option Addr} {n1 : Nat} {xs1 : List Int} {w : World} {b : Bool} (_hq : RdC w a d qs) (hx1 : RdC w ax1 n1 xs1) (hc : codeA p qs [xs1] = 0) : cntR (matM p qs xs1 b) n1 ≤ 1048576 := by
  obtain ⟨hcm, hq4⟩ := codeA_zero hc
  obtain ⟨hs, hm⟩ := codeM_one hcm
  obtain ⟨hpr, hd1, hd6, hqb⟩ := space_of hs
  have hpb := prime_bd hpr
  obtain ⟨hxl, hxb⟩ := multi_of hm
  have hN : n1 = 2 ^ qs.length := by rw [← hxl]; exact hx1.1.symm
  have h64 := pow_le64 hd6
  rw [cnt_good (matM_good (by omega)) n1 (by rw [matM_len]; omega), hN]
  exact Nat.le_trans (Nat.mul_le_mul h64 h64) (by omega)





end Go.Proofs.Ythimjfnmpicbiaa
