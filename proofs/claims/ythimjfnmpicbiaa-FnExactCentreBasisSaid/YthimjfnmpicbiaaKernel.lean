/-
  Kernels: contracts of the program and the reference.
  No condition.
-/
import Derived.Test.YthimjfnmpicbiaaMapK
import Derived.Test.YthimjfnmpicbiaaBasis
import Derived.Test.YthimjfnmpicbiaaBasisS
import Derived.Test.YthimjfnmpicbiaaRows3
import Derived.Test.YthimjfnmpicbiaaRowsC
import Derived.Test.YthimjfnmpicbiaaSolve
namespace Go.Proofs.Ythimjfnmpicbiaa
set_option maxRecDepth 100000
open Go.RowKit

theorem kerR_no {p : Int} {n : Nat} {red : List (List Int)} {k i : Nat} (h : pivIx red k = some i) : kerR p n red (k + 1) = kerR p n red k := by unfold kerR; rw [freeL_no h]
theorem kerR_yes {p : Int} {n : Nat} {red : List (List Int)} {k : Nat} (h : pivIx red k = none) : kerR p n red (k + 1) = kerR p n red k ++ [kerV p n red k] := by unfold kerR; rw [freeL_yes h]; simp
theorem kerR_len (p : Int) (n : Nat) (red : List (List Int)) (k : Nat) : (kerR p n red k).length ≤ k := by unfold kerR; rw [List.length_map]; exact freeL_len red k
theorem kernL_cnt {p : Int} {n : Nat} {rows : List (List Int)} (hp : primeB p = true) : (kernL p n rows).length ≤ n ∧ RowsG p n (kernL p n rows) := by
  obtain ⟨c, hb⟩ := basis_red hp (kerR_good (n := n) (red := basisL p n rows) (k := n) (prime_bd hp).1)
  exact ⟨hb.len, hb.good⟩

set_option maxHeartbeats 8000000 in
set_option maxRecDepth 100000 in
theorem c_kernel (p : Int) (a : Option Addr) (m cap n : Nat) (rows : List (List Int)) (w : World) (hpr : primeB p = true) (hn : 0 < n) (hn2 : n ≤ 4095) (hm : m ≤ 4095) (hx : RdR w a m rows) (hg : RowsG p n rows) :
    Calls Try.prog 100 #[.int .i64 p, .slice a m cap, .int .i64 n] w fun e w' => ∃ g rc, e = .returned (.slice (some ⟨g, 0, none⟩) (kernL p n rows).length rc) ∧ OwnR w.heap.size w' (some ⟨g, 0, none⟩) (kernL p n rows).length rc (kernL p n rows) ∧ Ext w w' := by
  have hmm := @run_makeMap Try.prog
  have hpb := prime_bd hpr
  obtain ⟨cc, hbas⟩ := basis_red hpr hg
  have HPR := Lib.hid hpr
  have HX := Lib.hid hx
  have HG := Lib.hid hg
  obtain ⟨red, hred⟩ : ∃ red, red = basisL p n rows := ⟨_, rfl⟩
  have HBas := Lib.hid (show Basis p n red cc by rw [hred]; exact hbas)
  have HRed := Lib.hid hred
  have HKL := Lib.hid (show kernL p n rows = basisL p n (kerR p n red n) by unfold kernL; rw [hred])
  have hrl : red.length ≤ 4095 := by have := HBas.out.len; omega
  clear hx hg hbas hpr hred
  go_enter Try.func100, Try.ntmps100
  go_wp2_with (go_at_call 176; refine (c_basis p a m cap n rows _ HPR.out hn (by omega) (by omega) HX.out HG.out).mono ?_; rintro e w1 ⟨gb, cb, r, rfl, hob, hxb⟩; rw [← HRed.out] at hob; obtain rfl := hob.len; have HOb := Lib.hid hob; have X1 := Lib.hid hxb; clear hob hxb)
  go_loopw [24] (fun i wr => ∃ k : Nat, k ≤ red.length ∧ i = .int .i64 k ∧ wr.ownsMap Try.prog 3 (plainElem Try.prog 3) w1.heap.size k (plD red k) ∧ Ext w1 wr) (fun i _ => red.length - (intOf i).toNat)
  case atStart => exact ⟨0, Nat.zero_le _, rfl, World.ownsMap_made _ _ _ _, ext_alloc _ _⟩
  case round =>
    obtain ⟨k, hk, rfl, hown, hext⟩ := hrel
    have HOwn := Lib.hid hown
    have HExt := Lib.hid hext
    clear hown hext
    by_cases hlt : k < red.length
    · obtain ⟨aj, cj, hcj, hoj⟩ := HOb.out.at hlt
      have hjl := (HBas.out.good k hlt).1
      rw [hjl] at hcj hoj
      have hcj' := HExt.out.cell hcj
      have HOj := Lib.hid (hoj.rd.ext HExt.out)
      obtain ⟨L, hL⟩ : ∃ L, L = leadN (nthR red k) := ⟨_, rfl⟩
      have HL := Lib.hid hL
      have hLn : L ≤ n := by rw [hL, ← hjl]; exact leadN_le _
      clear hcj hoj hjl hL
      go_wp2_with (first
        | (go_at_call 177; refine (c_lead aj n cj (nthR red k) _ (by omega) HOj.out).mono ?_; rintro e w2 ⟨rfl, g2⟩; rw [← HL.out]; have G2 := Lib.hid g2; clear g2)
        | (at_mapUpdate; refine wpList_mapUpdate_own _ rfl _ _ _ 123 rfl 3 3 lawK Try.underlying123 _ w1.heap.size k _ rfl (ownsMap_ext HOwn.out G2.out) (by unfold maxLen; omega) _ _ _ rfl rfl (Maps.keyOf_int_mk Try.underlying3 (WalkArith.wf_i64 (by omega))) _ [] (plainElem_int Try.underlying3 (WalkArith.wf_i64 (by omega))) ?_; intro w3 hown3 hgrow3; have HO3 := Lib.hid hown3; have HE3 := Lib.hid ((HExt.out.trans G2.out).grown hgrow3 (fun j hj => by cases hj; exact Nat.le_refl _)); clear hown3 hgrow3))
      go_roundw
      case rel => exact ⟨k + 1, by omega, by go_num, by (show World.ownsMap _ _ _ _ _ _ ((plD red k).put (.int .i64 (leadN (nthR red k))) (.lit (.int .i64 k)))); rw [← HL.out]; exact HO3.out, HE3.out⟩
      case measure => simp [intOf]; omega
    · obtain rfl : k = red.length := by omega
      have HM := HOwn
      have X2 := HExt
      have HRd := Lib.hid (HOb.out.ext X2.out)
      have GW := Lib.hid (X1.out.trans X2.out)
      clear HOwn HExt HOb
      rename World => wM
      go_wp2_with (fail)
      go_loopw [11, 36] (fun v i wq => ∃ (f g rc : Nat), f ≤ n ∧ i = .int .i64 f ∧ v = .slice (some ⟨g, 0, none⟩) (kerR p n red f).length rc ∧ OwnW wM.heap.size wq (some ⟨g, 0, none⟩) (kerR p n red f).length rc (kerR p n red f) ∧ Ext wM wq) (fun _ i _ => n - (intOf i).toNat)
      case atStart => exact ⟨0, _, _, Nat.zero_le _, rfl, rfl, OwnW.start _ _ _, ext_alloc _ _⟩
      case round =>
        obtain ⟨f, g, rc, hf, rfl, rfl, hown, hext⟩ := hrel
        rename World => wq
        have HOwn := Lib.hid hown
        have HExt := Lib.hid hext
        clear hown hext
        have hkl := kerR_len p n red f
        by_cases hlf : f < n
        · have hmap := ownsMap_ext HM.out HExt.out
          have hpiv := @plD_piv red f
          cases hp : pivIx red f with
          | some j =>
            rw [hp] at hpiv
            have HK := Lib.hid (kerR_no (p := p) (n := n) hp)
            have hhas : Maps.has (plD red red.length) (.int .i64 f) = true := hpiv
            clear hp hpiv
            go_wp2_with (at_lookup; refine wpList_lookup_own_ok_int _ rfl _ _ 123 rfl 3 3 .i64 lawK Try.underlying123 Try.underlying3 (zeroK _) w1.heap.size red.length _ rfl hmap _ _ rfl (Maps.keyOf_int_mk Try.underlying3 (WalkArith.wf_i64 (by omega))) ?_; intro c hat hwc; rw [hhas])
            go_roundw
            case rel => exact ⟨f + 1, g, rc, by omega, by go_num, by rw [HK.out], by rw [HK.out]; exact HOwn.out, HExt.out⟩
            case measure => simp [intOf]; omega
          | none =>
            rw [hp] at hpiv
            have HK := Lib.hid (kerR_yes (p := p) (n := n) hp)
            have HP := Lib.hid hp
            have hhas : Maps.has (plD red red.length) (.int .i64 f) = false := hpiv
            clear hp hpiv
            obtain ⟨w4, hmk, ho4, he4⟩ := make_ints wq n (by omega)
            obtain ⟨g0, hg0⟩ : ∃ g, g = wq.heap.size := ⟨_, rfl⟩
            rw [← hg0] at hmk ho4
            have HG0 := Lib.hid hg0
            have hge : wq.heap.size ≤ g0 := by omega
            have hgl : g0 < w4.heap.size := (ho4.base_of _ rfl).2
            have HO4 := Lib.hid ho4
            have HE4 := Lib.hid he4
            have hcg := ho4.cell hlf
            have hfz := ho4.frozen f
            have HM5 := Lib.hid (ownsMap_ext hmap (he4.setCell (p := ⟨g0, f, none⟩) hge (.int .i64 1)))
            clear ho4 he4 hg0
            go_wp2_with (first
              | (at_lookup; refine wpList_lookup_own_ok_int _ rfl _ _ 123 rfl 3 3 .i64 lawK Try.underlying123 Try.underlying3 (zeroK _) w1.heap.size red.length _ rfl hmap _ _ rfl (Maps.keyOf_int_mk Try.underlying3 (WalkArith.wf_i64 (by omega))) ?_; intro c hat hwc; rw [hhas])
              | (at_range; refine wpList_range_own _ rfl _ 123 rfl 3 3 lawK Try.underlying123 _ w1.heap.size red.length _ rfl HM5.out ?_; intro w6 hrg6 hg6 hs6))
            go_frame
            have hszg : (w4.setCell ⟨g0, f, none⟩ (.int .i64 1)).heap.size = w4.heap.size := by simp
            rw [hszg]
            clear hszg
            have X5 := Lib.hid (HE4.out.setCell (p := ⟨g0, f, none⟩) hge (.int .i64 1))
            have HO5 := Lib.hid (HO4.out.store hlf 1)
            have HSz := Lib.hid (show (w4.setCell ⟨g0, f, none⟩ (.int .i64 1)).heap.size = w4.heap.size by simp)
            obtain ⟨w5, hw5⟩ : ∃ w5, w5 = w4.setCell ⟨g0, f, none⟩ (.int .i64 1) := ⟨_, rfl⟩
            rw [← hw5] at hrg6 hg6 hs6 X5 HO5 HSz
            have hsz5 := HSz.out
            rw [hsz5] at hrg6
            have E6 := Lib.hid ((Ext.refl w5).grown hg6 (fun j hj => by cases hj))
            have HR6 := Lib.hid hrg6
            clear hcg hfz hmap hw5 hrg6 hg6 hs6 hmk hsz5
            go_loopw [53] (fun _ wz => ∃ (left : Lit → Bool) (cnt : Nat), wz.ranges Try.prog 3 (plainElem (H := Unit) Try.prog 3) w1.heap.size w4.heap.size red.length (plD red red.length) left cnt ∧ OwnC wq.heap.size wz (some ⟨g0, 0, none⟩) n n (kerP p n red f left) ∧ Ext wq wz) (fun _ wz => wz.rangeLeft w1.heap.size w4.heap.size)
            case atStart => exact ⟨_, _, HR6.out, by rw [kerP_start hlf]; exact (HO5.out.mono hge).ext E6.out, X5.out.trans E6.out⟩
            case round =>
              obtain ⟨left, cnt, hrg, hown, hext⟩ := hrel
              rename World => wz
              have HRg := Lib.hid hrg
              have HOz := Lib.hid hown
              have HEz := Lib.hid hext
              clear hrg hown hext
              go_wp2_with (at_next; refine wpList_next_ranges_ii _ rfl _ rfl 3 3 .i64 .i64 lawK Try.underlying3 Try.underlying3 w1.heap.size w4.heap.size red.length _ _ _ ?hit HRg.out ?_ ?_)
              case hit => simp [Act.eval]
              · intro _ hl0
                have HKE := Lib.hid (kerP_end (p := p) (n := n) (red := red) (f := f) hl0)
                clear hl0
                go_wp2_with (at_builtin; refine wpList_pushRW (w0 := wq) rfl (.tmp 71) (.tmp 73) rfl rfl rfl HOwn.out (HEz.out.trans (ext_alloc _ _)) (xs := kerV p n red f) (by rw [← HKE.out]; exact HOz.out.ext (ext_alloc _ _)) ?hc (by omega) HExt.out.size ?hk)
                case hc => exact cell_new _ _ rfl _ _
                case hk =>
                  intro g' cap' w9 ho9 he9
                  have HO9 := Lib.hid ho9
                  have HE9 := Lib.hid (he9 wM (Nat.le_refl _) ((HExt.out.trans HEz.out).alloc _))
                  clear ho9 he9
                  go_wp2_with (fail)
                  go_roundw
                  case rel => exact ⟨f + 1, g', cap', by omega, by go_num, by rw [HK.out, List.length_append]; rfl, by rw [HK.out, List.length_append]; exact .inr HO9.out, HE9.out⟩
                  case measure => simp [intOf]; omega
              · intro x c w7 cnt7 hwx hwc hlx hat hrg7 hlt7 hg7 hs7 hen
                obtain ⟨i, hi, rfl, rfl⟩ := plD_entry HBas.out hat
                have hjl := (HBas.out.good i hi).1
                have hlt : leadN (nthR red i) < n := by rw [HBas.out.leadN hi]; exact HBas.out.clt i hi
                have hbd := (HBas.out.good i hi).2 f hlf
                obtain ⟨ai, ci, hci, hoi⟩ := HRd.out.at hi
                rw [hjl] at hci hoi
                have HSt := Lib.hid (kerP_step (p := p) (n := n) (left := left) HBas.out hi hlt HP.out)
                have hw5 : wq.heap.size ≤ w4.heap.size := HE4.out.size'
                have HE7 := Lib.hid (HEz.out.grown hg7 (fun j hj => by cases hj; exact hw5))
                obtain ⟨bj, oj, rfl, hcm⟩ := hoi.rd.2 f (by omega)
                have hci7 := (HExt.out.trans HE7.out).cell hci
                have hcm7 := (HExt.out.trans HE7.out).cell hcm
                obtain ⟨u, hu⟩ : ∃ u, u = nth (nthR red i) f := ⟨_, rfl⟩
                rw [← hu] at hcm7 hbd HSt
                have hwn : IntKind.i64.wrap (-u) = -u := IntWalk.i64_in _ (by omega)
                have ho7 := HOz.out.grown hg7 (fun g hg => by cases hg; intro he; injection he with he; have := HSz.out; omega)
                obtain ⟨L, hL⟩ : ∃ L, L = leadN (nthR red i) := ⟨_, rfl⟩
                rw [← hL] at hlt HSt hrg7 hen hwx hlx
                have HO7 := Lib.hid ho7
                have HRg7 := Lib.hid hrg7
                have hcg := ho7.cell hlt
                have hfz := ho7.frozen L
                have HCnt := Lib.hid hlt7
                clear hci hoi hcm hat hlx hwx hwc ho7 hrg7 hL hu hg7 hs7 hlt7 hjl
                go_wp2_with (go_at_call 178; refine (c_num _ _ _ (by omega) (by omega)).mono ?_; rintro e w10 ⟨rfl, g10⟩; have G10 := Lib.hid g10; have hcg' := g10.cell hcg; have hfz' := (HO7.out.ext g10).frozen L; clear g10)
                go_roundw
                case rel => exact ⟨_, cnt7, ranges_keep (ranges_ext HRg7.out G10.out) (Below.heap_setCell _ _ _ _ (by show w1.heap.size ≠ g0; have := HExt.out.size'; have := HM.out.lt; omega)) (Below.heap_setCell _ _ _ _ (by show w4.heap.size ≠ g0; have := HSz.out; omega)), by rw [HSt.out]; exact (HO7.out.ext G10.out).store hlt _, (HE7.out.trans G10.out).setCell hge _⟩
                case measure =>
                  have h1 := HRg.out.left_eq
                  have h2 := (ranges_keep (w' := w10.setCell ⟨g0, L, none⟩ (.int .i64 (-u % p))) (ranges_ext HRg7.out G10.out) (Below.heap_setCell _ _ _ _ (by show w1.heap.size ≠ g0; have := HExt.out.size'; have := HM.out.lt; omega)) (Below.heap_setCell _ _ _ _ (by show w4.heap.size ≠ g0; have := HSz.out; omega))).left_eq
                  have h3 := HCnt.out
                  omega
        · obtain rfl : f = n := by omega
          go_wp2_with (go_at_call 176; refine (c_basis p (some ⟨g, 0, none⟩) (kerR p f red f).length rc f (kerR p f red f) _ HPR.out hn (by omega) (by omega) HOwn.out.rd (kerR_good (by omega))).mono ?_; rintro e w8 ⟨g8, c8, r, rfl, ho8, x8⟩; rw [← HKL.out] at ho8; obtain rfl := ho8.len; have HO8 := Lib.hid ho8; have X8 := Lib.hid x8; clear ho8 x8)
          go_ret
          exact ⟨g8, c8, rfl, HO8.out.mono (GW.out.trans HExt.out).size, GW.out.trans (HExt.out.trans X8.out)⟩
end Go.Proofs.Ythimjfnmpicbiaa
