/-
  Texts of multivectors, in the program and in the reference; the listed function MultivectorText.
  No condition.
-/
import Derived.Test.YtdccileoiiafmaaDoorTerm
import Derived.Test.YtdccileoiiafmaaDoorNames
namespace Go.Proofs.YtdccileoiiafmaaDoor
set_option maxRecDepth 100000
open Go.RowKit

/-- Is a text empty? As the walk asks it. -/
def nilB (b : ByteArray) : Bool := b.toList == (⟨#[]⟩ : ByteArray).toList
def joinB (b t : ByteArray) (n : Bool) : ByteArray := (if (!nilB b && !n) = true then b ++ ⟨#[43]⟩ else b) ++ t
def outS (p : Int) (xs : List Int) (d : Nat) : Nat → ByteArray
  | 0 => ⟨#[]⟩
  | k + 1 => if nth xs k = 0 then outS p xs d k else joinB (outS p xs d k) (termN p (nth xs k) k d) (negB p (nth xs k))
def multiT (p : Int) (xs : List Int) (d n : Nat) : ByteArray := if nilB (outS p xs d n) = true then ⟨#[48]⟩ else outS p xs d n
theorem outS_zero {p : Int} {xs : List Int} {d k : Nat} (h : nth xs k = 0) : outS p xs d (k + 1) = outS p xs d k := by
  show (if nth xs k = 0 then _ else _) = _
  rw [if_pos h]
theorem outS_join {p : Int} {xs : List Int} {d k : Nat} (h : nth xs k ≠ 0) : outS p xs d (k + 1) = joinB (outS p xs d k) (termN p (nth xs k) k d) (negB p (nth xs k)) := by
  show (if nth xs k = 0 then _ else _) = _
  rw [if_neg h]
theorem plus_size : (⟨#[43]⟩ : ByteArray).size = 1 := rfl
theorem outS_size {p : Int} {xs : List Int} {d : Nat} (hd : d ≤ 6) : ∀ k, (outS p xs d k).size ≤ 10 * k
  | 0 => by show (0 : Nat) ≤ 0; omega
  | k + 1 => by
    have h1 := outS_size (p := p) (xs := xs) hd k
    have h2 := term_size (p := p) (a := nth xs k) (m := k) hd
    by_cases h : nth xs k = 0
    · rw [outS_zero h]; omega
    · rw [outS_join h]
      unfold joinB
      rw [ByteArray.size_append]
      split
      · rw [ByteArray.size_append, plus_size]; omega
      · omega
theorem nil_empty (b : ByteArray) : b.toList.isEmpty = nilB b := by
  unfold nilB
  rw [show (⟨#[]⟩ : ByteArray).toList = [] by first | rfl | simp | decide]
  cases b.toList <;> rfl
theorem join_A {b t : ByteArray} {n : Bool} (h : nilB b = true) : joinB b t n = b ++ t := by unfold joinB; rw [h]; rfl
theorem join_B {b t : ByteArray} (h : nilB b = false) : joinB b t true = b ++ t := by unfold joinB; rw [h]; rfl
theorem join_C {b t : ByteArray} (h : nilB b = false) : joinB b t false = b ++ ⟨#[43]⟩ ++ t := by unfold joinB; rw [h]; rfl
theorem empty_appendB (b : ByteArray) : (⟨#[]⟩ : ByteArray) ++ b = b := ByteArray.empty_append

set_option maxHeartbeats 2000000 in
theorem s_term (p a : Int) (m d : Nat) (w : World) (hpr : primeB p = true) (ha0 : 0 < a) (ha : a < p) (hd : d ≤ 6) (hm : m < 2 ^ d) :
    Calls Tryd.prog 40 #[.int .i64 p, .int .i64 a, .int .i64 m] w fun e w' => e = .returned (.string (termN p a m d)) ∧ Ext w w' := by
  have hpb := prime_bd hpr
  have HPR := Lib.hid hpr
  have hm6 : m < 64 := Nat.lt_of_lt_of_le hm (pow_nat_le hd)
  have H6 := Lib.hid (name_six hm hd)
  have hns := name_size (m := m) hd
  have hts := text_size (p := p) (a := a)
  clear hpr hm
  by_cases h0 : m = 0
  · subst h0
    have HT := Lib.hid (show termN p a 0 d = textN p a from if_pos rfl)
    go_enter Tryd.func40, Tryd.ntmps40
    go_wp2_with (fail)
    refine Calls.mono (s_text p a _ HPR.out (by omega) ha) ?_
    rintro e w1 ⟨rfl, g1⟩
    go_wp2_with (fail)
    go_ret
    exact ⟨by rw [HT.out]; rfl, g1⟩
  have hmb : ((m : Int) == 0) = false := by simp [h0]
  by_cases h1 : a = 1
  · subst h1
    have HT := Lib.hid (show termN p 1 m d = nameL m d by unfold termN; rw [if_neg h0, if_pos rfl])
    clear h0
    go_enter Tryd.func40, Tryd.ntmps40
    go_wp2_with (fail)
    refine Calls.mono (s_name m _ hm6) ?_
    rintro e w1 ⟨rfl, g1⟩
    rw [H6.out]
    go_wp2_with (fail)
    go_ret
    exact ⟨by rw [HT.out]; rfl, g1⟩
  have hab : (a == 1) = false := by simp [h1]
  have hw1 : IntKind.i64.wrap (p - 1) = p - 1 := IntWalk.i64_in _ (by omega)
  have hw2 : wrap64 (p - 1) = p - 1 := by unfold wrap64; omega
  by_cases h2 : a = p - 1
  · have HT := Lib.hid (show termN p a m d = ⟨#[45]⟩ ++ nameL m d by unfold termN; rw [if_neg h0, if_neg h1, if_pos h2])
    have hpb2 : (a == p - 1) = true := by simp [h2]
    have hcat : ¬ 9223372036854775807 < (⟨#[45]⟩ : ByteArray).size + (nameL m d).size := by rw [minus_size]; omega
    clear h0 h1 h2
    go_enter Tryd.func40, Tryd.ntmps40
    go_wp2_with (fail)
    refine Calls.mono (s_name m _ hm6) ?_
    rintro e w1 ⟨rfl, g1⟩
    rw [H6.out]
    go_wp2_with (fail)
    go_ret
    exact ⟨by rw [HT.out]; rfl, g1⟩
  · have HT := Lib.hid (show termN p a m d = textN p a ++ nameL m d by unfold termN; rw [if_neg h0, if_neg h1, if_neg h2])
    have hpb2 : (a == p - 1) = false := by simp [h2]
    have hcat : ¬ 9223372036854775807 < (textN p a).size + (nameL m d).size := by omega
    clear h0 h1 h2
    go_enter Tryd.func40, Tryd.ntmps40
    go_wp2_with (fail)
    refine Calls.mono (s_text p a _ HPR.out (by omega) ha) ?_
    rintro e w1 ⟨rfl, g1⟩
    go_wp2_with (fail)
    refine Calls.mono (s_name m _ hm6) ?_
    rintro e w2 ⟨rfl, g2⟩
    rw [H6.out]
    go_wp2_with (fail)
    go_ret
    exact ⟨by rw [HT.out]; rfl, g1.trans g2⟩

theorem idx_lead (c : UInt8) (t : ByteArray) : ∀ h, ((⟨#[c]⟩ : ByteArray) ++ t)[0]'h = c := fun h => by
  rw [ByteArray.getElem_append_left (by show 0 < 1; omega)]; rfl
set_option maxHeartbeats 8000000 in
theorem s_mtext (p : Int) (a : Option Addr) (d cap n : Nat) (ax : Option Addr) (cx : Nat) (xs : List Int) (w : World) (hpr : primeB p = true) (hd : d ≤ 6) (hN : n = 2 ^ d) (hx : RdC w ax n xs) (hgx : ∀ i, i < n → 0 ≤ nth xs i ∧ nth xs i < p) (S : ByteArray) (hS : S = multiT p xs d n) :
    Calls Tryd.prog 28 #[.agg #[.int .i64 p, .slice a d cap], .slice ax n cx] w fun e w' => e = .returned (.string S) ∧ Ext w w' := by
  have hpb := prime_bd hpr
  have HPR := Lib.hid hpr
  have HX := Lib.hid hx
  have HGX := Lib.hid hgx
  have hN6 : n ≤ 64 := by rw [hN]; exact pow_nat_le hd
  have HN := Lib.hid hN
  clear hpr hx hgx hN
  have HS := Lib.hid hS
  clear hS
  go_enter Tryd.func28, Tryd.ntmps28
  go_wp2_with (fail)
  obtain ⟨W, hW⟩ : ∃ W, W = w.alloc (.cells #[.int .i64 p, .slice a d cap] 28) := ⟨_, rfl⟩
  have gW := Lib.hid (show Ext w W by rw [hW]; exact ext_alloc _ _)
  have S0 := Lib.hid (show W.cell? ⟨w.heap.size, 0, none⟩ = some (.int .i64 p) by rw [hW]; simp)
  go_loopw [5, 6] (fun s i wr => ∃ (k : Nat) (b : ByteArray), k ≤ n ∧ i = .int .i64 k ∧ s = .string b ∧ Hid (b = outS p xs d k) ∧ Hid (Ext W wr)) (fun _ i _ => n - (intOf i).toNat)
  case atStart => exact ⟨0, _, Nat.zero_le _, rfl, rfl, Lib.hid rfl, by rw [hW]; exact Lib.hid (Ext.refl _)⟩
  case round =>
    clear hW
    rename World => y
    obtain ⟨k, b, hk, rfl, rfl, HB, HY⟩ := hrel
    have hbs : b.size ≤ 640 := by
      have h := outS_size (p := p) (xs := xs) hd k
      rw [HB.out]; omega
    by_cases hlt : k < n
    · obtain ⟨bx, ox, rfl, hcx⟩ := (HX.out.ext (gW.out.trans HY.out)).2 k hlt
      obtain ⟨xv, hxv⟩ : ∃ x, x = nth xs k := ⟨_, rfl⟩
      have hxb : 0 ≤ xv ∧ xv < p := by rw [hxv]; exact HGX.out k hlt
      rw [← hxv] at hcx
      have HXV := Lib.hid hxv
      clear hxv
      by_cases hz : xv = 0
      · have hzb : (xv == 0) = true := by simp [hz]
        have HZZ := Lib.hid (show nth xs k = 0 by rw [← HXV.out]; exact hz)
        clear hz
        go_wp2_with (fail)
        go_roundw
        case rel => exact ⟨k + 1, b, by omega, by go_num, rfl, Lib.hid (by rw [outS_zero HZZ.out]; exact HB.out), HY⟩
        case measure => simp [intOf]; omega
      have hzb : (xv == 0) = false := by simp [hz]
      have HNZ := Lib.hid (show nth xs k ≠ 0 by rw [← HXV.out]; exact hz)
      have HCX := Lib.hid ((ext_drew y).cell hcx)
      have HS0 := Lib.hid ((HY.out.trans (ext_drew y)).cell S0.out)
      obtain ⟨c, t, hte, hcn0⟩ := term_lead (m := k) (d := d) HPR.out (show 0 < xv by omega) hxb.2
      obtain ⟨tm, htm⟩ : ∃ x, x = termN p xv k d := ⟨_, rfl⟩
      rw [← htm] at hte
      have HTE := Lib.hid hte
      have HCN := Lib.hid hcn0
      have hts : tm.size ≤ 9 := by rw [htm]; exact term_size hd
      have HTM := Lib.hid (show tm = termN p (nth xs k) k d by rw [← HXV.out]; exact htm)
      have HTC := Lib.hid (fun (W : World) => s_term p xv k d W HPR.out (by omega) hxb.2 hd (by rw [← HN.out]; exact hlt))
      rw [← htm] at HTC
      clear hte hcn0 htm hz
      go_wp2_with (fail)
      clear hcx
      refine wp_region_lex [(7, .val (.string tm))] (by kernel_rfl) (by kernel_rfl) ?_
      (refine LexW.pure (v := ?_) rfl rfl (fun w1 he => ?_) ?_; rotate_left; ( have e1 := he.cell HCX.out; have e2 := he.cell HS0.out; go_simp; rfl); simp only [Act.put, List.setIfInBounds_toArray, List.set_cons_zero, List.set_cons_succ])
      (refine LexW.pure (v := ?_) rfl rfl (fun w1 he => ?_) ?_; rotate_left; ( have e1 := he.cell HCX.out; have e2 := he.cell HS0.out; go_simp; rfl); simp only [Act.put, List.setIfInBounds_toArray, List.set_cons_zero, List.set_cons_succ])
      (refine LexW.pure (v := ?_) rfl rfl (fun w1 he => ?_) ?_; rotate_left; ( have e1 := he.cell HCX.out; have e2 := he.cell HS0.out; go_simp; rfl); simp only [Act.put, List.setIfInBounds_toArray, List.set_cons_zero, List.set_cons_succ])
      (refine LexW.pure (v := ?_) rfl rfl (fun w1 he => ?_) ?_; rotate_left; ( have e1 := he.cell HCX.out; have e2 := he.cell HS0.out; go_simp; rfl); simp only [Act.put, List.setIfInBounds_toArray, List.set_cons_zero, List.set_cons_succ])
      (refine LexW.pure (v := ?_) rfl rfl (fun w1 he => ?_) ?_; rotate_left; ( have e1 := he.cell HCX.out; have e2 := he.cell HS0.out; go_simp; rfl); simp only [Act.put, List.setIfInBounds_toArray, List.set_cons_zero, List.set_cons_succ])
      (refine LexW.pure (v := ?_) rfl rfl (fun w1 he => ?_) ?_; rotate_left; ( have e1 := he.cell HCX.out; have e2 := he.cell HS0.out; go_simp; rfl); simp only [Act.put, List.setIfInBounds_toArray, List.set_cons_zero, List.set_cons_succ])
      (refine LexW.pure (v := ?_) rfl rfl (fun w1 he => ?_) ?_; rotate_left; ( have e1 := he.cell HCX.out; have e2 := he.cell HS0.out; go_simp; rfl); simp only [Act.put, List.setIfInBounds_toArray, List.set_cons_zero, List.set_cons_succ])
      (refine LexW.call (f := ?_) (args := ?_) rfl rfl (fun w1 => ?_) (fun w1 he hdep => ?_) ?_; rotate_left 2; (go_simp; refine ⟨?_, ?_⟩ <;> rfl); ( exact HTC.out w1); simp only [Act.put, List.setIfInBounds_toArray, List.set_cons_zero, List.set_cons_succ])
      (refine LexW.pure (v := ?_) rfl rfl (fun w1 he => ?_) ?_; rotate_left; ( have e1 := he.cell HCX.out; have e2 := he.cell HS0.out; go_simp; rfl); simp only [Act.put, List.setIfInBounds_toArray, List.set_cons_zero, List.set_cons_succ])
      refine LexW.nil (fun w3 he hkn => ?_)
      have HE := Lib.hid ((ext_drew y).trans he)
      clear he hkn 
      rename World => z
      have HZ := Lib.hid (HY.out.trans HE.out)
      clear HE HCX HS0 HTC
      cases hnb : nilB b
      · cases hng : negB p xv
        · have hcn : (c == 45) = false := by rw [HCN.out, hng]
          have hci : ((c.toNat : Int) == 45) = false := by
            simp only [beq_eq_false_iff_ne, ne_eq] at hcn ⊢
            intro h
            exact hcn (UInt8.toNat_inj.1 (show c.toNat = 45 by omega))
          have hcj : ((c.toNat : Int) != 45) = true := by unfold bne; rw [hci]; rfl
          have HJ := Lib.hid (show joinB (outS p xs d k) tm (negB p (nth xs k)) = b ++ ⟨#[43]⟩ ++ tm by rw [← HXV.out, ← HB.out, hng]; exact join_C hnb)
          have hbl : b.toList.isEmpty = false := by rw [nil_empty]; exact hnb
          have hcat1 : ¬ 9223372036854775807 < b.size + (⟨#[43]⟩ : ByteArray).size := by rw [plus_size]; omega
          have hcat2 : ¬ 9223372036854775807 < (b ++ ⟨#[43]⟩).size + tm.size := by rw [ByteArray.size_append, plus_size]; omega
          clear hnb hng
          obtain rfl := HTE.out
          have hix := idx_lead c t
          go_wp2_with (fail)
          go_roundw
          case rel => exact ⟨k + 1, _, by omega, by go_num, rfl, Lib.hid (by rw [outS_join HNZ.out, ← HTM.out, HJ.out]), HZ⟩
          case measure => simp [intOf]; omega
        · have hcn : (c == 45) = true := by rw [HCN.out, hng]
          have hci : ((c.toNat : Int) == 45) = true := by
            simp only [beq_iff_eq] at hcn ⊢
            rw [hcn]; rfl
          have hcj : ((c.toNat : Int) != 45) = false := by unfold bne; rw [hci]; rfl
          have HJ := Lib.hid (show joinB (outS p xs d k) tm (negB p (nth xs k)) = b ++ tm by rw [← HXV.out, ← HB.out, hng]; exact join_B hnb)
          have hbl : b.toList.isEmpty = false := by rw [nil_empty]; exact hnb
          have hcat2 : ¬ 9223372036854775807 < b.size + tm.size := by omega
          clear hnb hng
          obtain rfl := HTE.out
          have hix := idx_lead c t
          go_wp2_with (fail)
          go_roundw
          case rel => exact ⟨k + 1, _, by omega, by go_num, rfl, Lib.hid (by rw [outS_join HNZ.out, ← HTM.out, HJ.out]), HZ⟩
          case measure => simp [intOf]; omega
      · have HJ := Lib.hid (show joinB (outS p xs d k) tm (negB p (nth xs k)) = b ++ tm by rw [← HB.out]; exact join_A hnb)
        have hbl : b.toList.isEmpty = true := by rw [nil_empty]; exact hnb
        have hcat2 : ¬ 9223372036854775807 < b.size + tm.size := by omega
        clear hnb
        go_wp2_with (fail)
        go_roundw
        case rel => exact ⟨k + 1, _, by omega, by go_num, rfl, Lib.hid (by rw [outS_join HNZ.out, ← HTM.out, HJ.out]), HZ⟩
        case measure => simp [intOf]; omega
    · obtain rfl : k = n := by omega
      cases hnb : nilB b
      · have HM := Lib.hid (show S = b by rw [HS.out]; unfold multiT; rw [← HB.out, hnb]; rfl)
        have hbl : b.toList.isEmpty = false := by rw [nil_empty]; exact hnb
        clear hnb
        go_wp2_with (fail)
        go_ret
        exact ⟨by rw [HM.out]; rfl, gW.out.trans HY.out⟩
      · have HM := Lib.hid (show S = ⟨#[48]⟩ by rw [HS.out]; unfold multiT; rw [← HB.out, hnb]; rfl)
        have hbl : b.toList.isEmpty = true := by rw [nil_empty]; exact hnb
        clear hnb
        go_wp2_with (fail)
        go_ret
        exact ⟨by rw [HM.out]; rfl, gW.out.trans HY.out⟩

set_option maxHeartbeats 16000000 in
theorem c_mtext (p : Int) (a : Option Addr) (d cap n : Nat) (ax : Option Addr) (cx : Nat) (xs : List Int) (w : World) (hpr : primeB p = true) (hd : d ≤ 6) (hN : n = 2 ^ d) (hx : RdC w ax n xs) (hgx : ∀ i, i < n → 0 ≤ nth xs i ∧ nth xs i < p) (S : ByteArray) (hS : S = multiT p xs d n) (hG : w.cell? ⟨0, 0, none⟩ = some (.int .u64 1)) :
    Calls Tryd.prog 30 #[.agg #[.int .i64 p, .slice a d cap], .slice ax n cx] w fun e w' => e = .returned (.string S) ∧ Ext w w' := by
  have hpb := prime_bd hpr
  have HPR := Lib.hid hpr
  have HX := Lib.hid hx
  have HGX := Lib.hid hgx
  have hN6 : n ≤ 64 := by rw [hN]; exact pow_nat_le hd
  have HN := Lib.hid hN
  clear hpr hx hgx hN
  have HS := Lib.hid hS
  have HG := Lib.hid hG
  clear hS hG
  go_enter Tryd.func30, Tryd.ntmps30
  go_wp2_with (fail)
  obtain ⟨W, hW⟩ : ∃ W, W = w.alloc (.cells #[.int .i64 p, .slice a d cap] 28) := ⟨_, rfl⟩
  have gW := Lib.hid (show Ext w W by rw [hW]; exact ext_alloc _ _)
  have S0 := Lib.hid (show W.cell? ⟨w.heap.size, 0, none⟩ = some (.int .i64 p) by rw [hW]; simp)
  have S1 := Lib.hid (show W.cell? ⟨w.heap.size, 1, none⟩ = some (.slice a d cap) by rw [hW]; simp)
  go_loopw [5, 11] (fun s i wr => ∃ (k : Nat) (b : ByteArray), k ≤ n ∧ i = .int .i64 k ∧ s = .string b ∧ Hid (b = outS p xs d k) ∧ Hid (Ext W wr)) (fun _ i _ => n - (intOf i).toNat)
  case atStart => exact ⟨0, _, Nat.zero_le _, rfl, rfl, Lib.hid rfl, by rw [hW]; exact Lib.hid (Ext.refl _)⟩
  case round =>
    clear hW
    rename World => y
    obtain ⟨k, b, hk, rfl, rfl, HB, HY⟩ := hrel
    have hbs : b.size ≤ 640 := by
      have h := outS_size (p := p) (xs := xs) hd k
      rw [HB.out]; omega
    by_cases hlt : k < n
    · obtain ⟨bx, ox, rfl, hcx⟩ := (HX.out.ext (gW.out.trans HY.out)).2 k hlt
      obtain ⟨xv, hxv⟩ : ∃ x, x = nth xs k := ⟨_, rfl⟩
      have hxb : 0 ≤ xv ∧ xv < p := by rw [hxv]; exact HGX.out k hlt
      rw [← hxv] at hcx
      have HXV := Lib.hid hxv
      clear hxv
      by_cases hz : xv = 0
      · have hzb : (xv == 0) = true := by simp [hz]
        have HZZ := Lib.hid (show nth xs k = 0 by rw [← HXV.out]; exact hz)
        clear hz
        go_wp2_with (fail)
        go_roundw
        case rel => exact ⟨k + 1, b, by omega, by go_num, rfl, Lib.hid (by rw [outS_zero HZZ.out]; exact HB.out), HY⟩
        case measure => simp [intOf]; omega
      have hzb : (xv == 0) = false := by simp [hz]
      have hx0 : 0 < xv := by omega
      have HNZ := Lib.hid (show nth xs k ≠ 0 by rw [← HXV.out]; exact hz)
      have s0 := HY.out.cell S0.out
      have s1 := HY.out.cell S1.out
      obtain ⟨c, t, hte, hcn0⟩ := term_lead (m := k) (d := d) HPR.out hx0 hxb.2
      obtain ⟨tm, htm⟩ : ∃ x, x = termN p xv k d := ⟨_, rfl⟩
      rw [← htm] at hte
      have HTE := Lib.hid hte
      have HCN := Lib.hid hcn0
      have hts : tm.size ≤ 9 := by rw [htm]; exact term_size hd
      have hns := name_size (m := k) hd
      have HTM := Lib.hid (show tm = termN p (nth xs k) k d by rw [← HXV.out]; exact htm)
      clear hte hcn0 htm hz
      go_wp2_with (fail)
      refine Calls.mono (c_field p _ y) ?_
      rintro e y1 ⟨rfl, g1⟩
      clear s0 s1
      go_wp2_with (fail)
      refine Calls.mono (c_text p xv y1 HPR.out (by omega) hxb.2 (((gW.out.trans HY.out).trans g1).cell HG.out)) ?_
      rintro e z ⟨rfl, g2⟩
      have HZ := Lib.hid (HY.out.trans (g1.trans g2))
      obtain ⟨T, hT⟩ : ∃ x, x = textN p xv := ⟨_, rfl⟩
      have hTs : T.size ≤ 2 := by rw [hT]; exact text_size
      have HT := Lib.hid hT
      rw [← hT]
      have s0 := HZ.out.cell S0.out
      have s1 := HZ.out.cell S1.out
      clear g1 g2 hT hcx
      by_cases h0 : k = 0
      · skip
        have hE : T = tm := by rw [HT.out, HTM.out, ← HXV.out]; unfold termN; rw [if_pos h0]
        have hmb : ((k : Int) != 0) = false := by simp [h0]
        clear h0
        cases hnb : nilB b
        · cases hng : negB p xv
          · skip
            have hcn : (c == 45) = false := by rw [HCN.out, hng]
            have HJ := Lib.hid (show joinB (outS p xs d k) tm (negB p (nth xs k)) = b ++ ⟨#[43]⟩ ++ tm by rw [← HXV.out, ← HB.out, hng]; exact join_C hnb)
            have hbl : b.toList.isEmpty = false := by rw [nil_empty]; exact hnb
            have hcat1 : ¬ 9223372036854775807 < b.size + (⟨#[43]⟩ : ByteArray).size := by rw [plus_size]; omega
            have hcat2 : ¬ 9223372036854775807 < (b ++ ⟨#[43]⟩).size + tm.size := by rw [ByteArray.size_append, plus_size]; omega
            clear hnb hng
            have HCB := Lib.hid hcn
            clear hcn
            obtain rfl := HTE.out
            go_wp2_with (fail)
            clear s0 s1
            refine Calls.mono (c_HasPrefix c t _ _ HCB.out) ?_
            rintro e z3 ⟨rfl, g3⟩
            replace HZ := Lib.hid (HZ.out.trans g3)
            clear g3
            go_wp2_with (fail)
            go_roundw
            case rel => exact ⟨k + 1, _, by omega, by go_num, rfl, Lib.hid (by rw [outS_join HNZ.out, ← HTM.out, HJ.out]), HZ⟩
            case measure => simp [intOf]; omega
          · skip
            have hcn : (c == 45) = true := by rw [HCN.out, hng]
            have HJ := Lib.hid (show joinB (outS p xs d k) tm (negB p (nth xs k)) = b ++ tm by rw [← HXV.out, ← HB.out, hng]; exact join_B hnb)
            have hbl : b.toList.isEmpty = false := by rw [nil_empty]; exact hnb
            have hcat2 : ¬ 9223372036854775807 < b.size + tm.size := by omega
            clear hnb hng
            have HCB := Lib.hid hcn
            clear hcn
            obtain rfl := HTE.out
            go_wp2_with (fail)
            clear s0 s1
            refine Calls.mono (c_HasPrefix c t _ _ HCB.out) ?_
            rintro e z3 ⟨rfl, g3⟩
            replace HZ := Lib.hid (HZ.out.trans g3)
            clear g3
            go_wp2_with (fail)
            go_roundw
            case rel => exact ⟨k + 1, _, by omega, by go_num, rfl, Lib.hid (by rw [outS_join HNZ.out, ← HTM.out, HJ.out]), HZ⟩
            case measure => simp [intOf]; omega
        · skip
          have HJ := Lib.hid (show joinB (outS p xs d k) tm (negB p (nth xs k)) = b ++ tm by rw [← HB.out]; exact join_A hnb)
          have hbl : b.toList.isEmpty = true := by rw [nil_empty]; exact hnb
          have hcat2 : ¬ 9223372036854775807 < b.size + tm.size := by omega
          clear hnb
          obtain rfl := HTE.out
          go_wp2_with (fail)
          clear s0 s1
          go_roundw
          case rel => exact ⟨k + 1, _, by omega, by go_num, rfl, Lib.hid (by rw [outS_join HNZ.out, ← HTM.out, HJ.out]), HZ⟩
          case measure => simp [intOf]; omega
      have hmb : ((k : Int) != 0) = true := by simp [h0]
      by_cases h1 : xv = 1
      · skip
        have hq : (T.toList == [49]) = true := by
          have h := text_one HPR.out hx0 hxb.2
          rw [decide_eq_true h1, ← HT.out] at h
          simpa using h
        have hE : (⟨#[]⟩ : ByteArray) ++ nameL k d = tm := by rw [empty_appendB, HTM.out, ← HXV.out]; unfold termN; rw [if_neg h0, if_pos h1]
        have hcatT : ¬ 9223372036854775807 < (⟨#[]⟩ : ByteArray).size + (nameL k d).size := by have : (⟨#[]⟩ : ByteArray).size = 0 := rfl; omega
        have hcatU : ¬ 9223372036854775807 < (nameL k d).size := by omega
        clear h0 h1
        cases hnb : nilB b
        · cases hng : negB p xv
          · skip
            have hcn : (c == 45) = false := by rw [HCN.out, hng]
            have HJ := Lib.hid (show joinB (outS p xs d k) tm (negB p (nth xs k)) = b ++ ⟨#[43]⟩ ++ tm by rw [← HXV.out, ← HB.out, hng]; exact join_C hnb)
            have hbl : b.toList.isEmpty = false := by rw [nil_empty]; exact hnb
            have hcat1 : ¬ 9223372036854775807 < b.size + (⟨#[43]⟩ : ByteArray).size := by rw [plus_size]; omega
            have hcat2 : ¬ 9223372036854775807 < (b ++ ⟨#[43]⟩).size + tm.size := by rw [ByteArray.size_append, plus_size]; omega
            clear hnb hng
            have HCB := Lib.hid hcn
            clear hcn
            obtain rfl := HTE.out
            go_wp2_with (fail)
            refine Calls.mono (c_nameOf p a d cap k _ hd (by omega)) ?_
            rintro e z2 ⟨rfl, g2⟩
            replace HZ := Lib.hid (HZ.out.trans g2)
            clear g2 s0 s1
            go_wp2_with (fail)
            refine Calls.mono (c_HasPrefix c t _ _ HCB.out) ?_
            rintro e z3 ⟨rfl, g3⟩
            replace HZ := Lib.hid (HZ.out.trans g3)
            clear g3
            go_wp2_with (fail)
            go_roundw
            case rel => exact ⟨k + 1, _, by omega, by go_num, rfl, Lib.hid (by rw [outS_join HNZ.out, ← HTM.out, HJ.out]), HZ⟩
            case measure => simp [intOf]; omega
          · skip
            have hcn : (c == 45) = true := by rw [HCN.out, hng]
            have HJ := Lib.hid (show joinB (outS p xs d k) tm (negB p (nth xs k)) = b ++ tm by rw [← HXV.out, ← HB.out, hng]; exact join_B hnb)
            have hbl : b.toList.isEmpty = false := by rw [nil_empty]; exact hnb
            have hcat2 : ¬ 9223372036854775807 < b.size + tm.size := by omega
            clear hnb hng
            have HCB := Lib.hid hcn
            clear hcn
            obtain rfl := HTE.out
            go_wp2_with (fail)
            refine Calls.mono (c_nameOf p a d cap k _ hd (by omega)) ?_
            rintro e z2 ⟨rfl, g2⟩
            replace HZ := Lib.hid (HZ.out.trans g2)
            clear g2 s0 s1
            go_wp2_with (fail)
            refine Calls.mono (c_HasPrefix c t _ _ HCB.out) ?_
            rintro e z3 ⟨rfl, g3⟩
            replace HZ := Lib.hid (HZ.out.trans g3)
            clear g3
            go_wp2_with (fail)
            go_roundw
            case rel => exact ⟨k + 1, _, by omega, by go_num, rfl, Lib.hid (by rw [outS_join HNZ.out, ← HTM.out, HJ.out]), HZ⟩
            case measure => simp [intOf]; omega
        · skip
          have HJ := Lib.hid (show joinB (outS p xs d k) tm (negB p (nth xs k)) = b ++ tm by rw [← HB.out]; exact join_A hnb)
          have hbl : b.toList.isEmpty = true := by rw [nil_empty]; exact hnb
          have hcat2 : ¬ 9223372036854775807 < b.size + tm.size := by omega
          clear hnb
          obtain rfl := HTE.out
          go_wp2_with (fail)
          refine Calls.mono (c_nameOf p a d cap k _ hd (by omega)) ?_
          rintro e z2 ⟨rfl, g2⟩
          replace HZ := Lib.hid (HZ.out.trans g2)
          clear g2 s0 s1
          go_wp2_with (fail)
          go_roundw
          case rel => exact ⟨k + 1, _, by omega, by go_num, rfl, Lib.hid (by rw [outS_join HNZ.out, ← HTM.out, HJ.out]), HZ⟩
          case measure => simp [intOf]; omega
      have hq1 : (T.toList == [49]) = false := by
        have h := text_one HPR.out hx0 hxb.2
        rw [decide_eq_false h1, ← HT.out] at h
        simpa using h
      by_cases h2 : xv = p - 1
      · skip
        have hq : (T.toList == [45, 49]) = true := by
          have h := text_mone HPR.out hx0 hxb.2
          rw [decide_eq_true h2, ← HT.out] at h
          simpa using h
        have hE : (⟨#[45]⟩ : ByteArray) ++ nameL k d = tm := by rw [HTM.out, ← HXV.out]; unfold termN; rw [if_neg h0, if_neg h1, if_pos h2]
        have hcatT : ¬ 9223372036854775807 < (⟨#[45]⟩ : ByteArray).size + (nameL k d).size := by rw [minus_size]; omega
        clear h0 h1 h2
        cases hnb : nilB b
        · cases hng : negB p xv
          · skip
            have hcn : (c == 45) = false := by rw [HCN.out, hng]
            have HJ := Lib.hid (show joinB (outS p xs d k) tm (negB p (nth xs k)) = b ++ ⟨#[43]⟩ ++ tm by rw [← HXV.out, ← HB.out, hng]; exact join_C hnb)
            have hbl : b.toList.isEmpty = false := by rw [nil_empty]; exact hnb
            have hcat1 : ¬ 9223372036854775807 < b.size + (⟨#[43]⟩ : ByteArray).size := by rw [plus_size]; omega
            have hcat2 : ¬ 9223372036854775807 < (b ++ ⟨#[43]⟩).size + tm.size := by rw [ByteArray.size_append, plus_size]; omega
            clear hnb hng
            have HCB := Lib.hid hcn
            clear hcn
            obtain rfl := HTE.out
            go_wp2_with (fail)
            refine Calls.mono (c_nameOf p a d cap k _ hd (by omega)) ?_
            rintro e z2 ⟨rfl, g2⟩
            replace HZ := Lib.hid (HZ.out.trans g2)
            clear g2 s0 s1
            go_wp2_with (fail)
            refine Calls.mono (c_HasPrefix c t _ _ HCB.out) ?_
            rintro e z3 ⟨rfl, g3⟩
            replace HZ := Lib.hid (HZ.out.trans g3)
            clear g3
            go_wp2_with (fail)
            go_roundw
            case rel => exact ⟨k + 1, _, by omega, by go_num, rfl, Lib.hid (by rw [outS_join HNZ.out, ← HTM.out, HJ.out]), HZ⟩
            case measure => simp [intOf]; omega
          · skip
            have hcn : (c == 45) = true := by rw [HCN.out, hng]
            have HJ := Lib.hid (show joinB (outS p xs d k) tm (negB p (nth xs k)) = b ++ tm by rw [← HXV.out, ← HB.out, hng]; exact join_B hnb)
            have hbl : b.toList.isEmpty = false := by rw [nil_empty]; exact hnb
            have hcat2 : ¬ 9223372036854775807 < b.size + tm.size := by omega
            clear hnb hng
            have HCB := Lib.hid hcn
            clear hcn
            obtain rfl := HTE.out
            go_wp2_with (fail)
            refine Calls.mono (c_nameOf p a d cap k _ hd (by omega)) ?_
            rintro e z2 ⟨rfl, g2⟩
            replace HZ := Lib.hid (HZ.out.trans g2)
            clear g2 s0 s1
            go_wp2_with (fail)
            refine Calls.mono (c_HasPrefix c t _ _ HCB.out) ?_
            rintro e z3 ⟨rfl, g3⟩
            replace HZ := Lib.hid (HZ.out.trans g3)
            clear g3
            go_wp2_with (fail)
            go_roundw
            case rel => exact ⟨k + 1, _, by omega, by go_num, rfl, Lib.hid (by rw [outS_join HNZ.out, ← HTM.out, HJ.out]), HZ⟩
            case measure => simp [intOf]; omega
        · skip
          have HJ := Lib.hid (show joinB (outS p xs d k) tm (negB p (nth xs k)) = b ++ tm by rw [← HB.out]; exact join_A hnb)
          have hbl : b.toList.isEmpty = true := by rw [nil_empty]; exact hnb
          have hcat2 : ¬ 9223372036854775807 < b.size + tm.size := by omega
          clear hnb
          obtain rfl := HTE.out
          go_wp2_with (fail)
          refine Calls.mono (c_nameOf p a d cap k _ hd (by omega)) ?_
          rintro e z2 ⟨rfl, g2⟩
          replace HZ := Lib.hid (HZ.out.trans g2)
          clear g2 s0 s1
          go_wp2_with (fail)
          go_roundw
          case rel => exact ⟨k + 1, _, by omega, by go_num, rfl, Lib.hid (by rw [outS_join HNZ.out, ← HTM.out, HJ.out]), HZ⟩
          case measure => simp [intOf]; omega
      have hq2 : (T.toList == [45, 49]) = false := by
        have h := text_mone HPR.out hx0 hxb.2
        rw [decide_eq_false h2, ← HT.out] at h
        simpa using h
      have hE : T ++ nameL k d = tm := by rw [HT.out, HTM.out, ← HXV.out]; unfold termN; rw [if_neg h0, if_neg h1, if_neg h2]
      have hcatT : ¬ 9223372036854775807 < T.size + (nameL k d).size := by omega
      clear h0 h1 h2
      cases hnb : nilB b
      · cases hng : negB p xv
        · skip
          have hcn : (c == 45) = false := by rw [HCN.out, hng]
          have HJ := Lib.hid (show joinB (outS p xs d k) tm (negB p (nth xs k)) = b ++ ⟨#[43]⟩ ++ tm by rw [← HXV.out, ← HB.out, hng]; exact join_C hnb)
          have hbl : b.toList.isEmpty = false := by rw [nil_empty]; exact hnb
          have hcat1 : ¬ 9223372036854775807 < b.size + (⟨#[43]⟩ : ByteArray).size := by rw [plus_size]; omega
          have hcat2 : ¬ 9223372036854775807 < (b ++ ⟨#[43]⟩).size + tm.size := by rw [ByteArray.size_append, plus_size]; omega
          clear hnb hng
          have HCB := Lib.hid hcn
          clear hcn
          obtain rfl := HTE.out
          go_wp2_with (fail)
          refine Calls.mono (c_nameOf p a d cap k _ hd (by omega)) ?_
          rintro e z2 ⟨rfl, g2⟩
          replace HZ := Lib.hid (HZ.out.trans g2)
          clear g2 s0 s1
          go_wp2_with (fail)
          refine Calls.mono (c_HasPrefix c t _ _ HCB.out) ?_
          rintro e z3 ⟨rfl, g3⟩
          replace HZ := Lib.hid (HZ.out.trans g3)
          clear g3
          go_wp2_with (fail)
          go_roundw
          case rel => exact ⟨k + 1, _, by omega, by go_num, rfl, Lib.hid (by rw [outS_join HNZ.out, ← HTM.out, HJ.out]), HZ⟩
          case measure => simp [intOf]; omega
        · skip
          have hcn : (c == 45) = true := by rw [HCN.out, hng]
          have HJ := Lib.hid (show joinB (outS p xs d k) tm (negB p (nth xs k)) = b ++ tm by rw [← HXV.out, ← HB.out, hng]; exact join_B hnb)
          have hbl : b.toList.isEmpty = false := by rw [nil_empty]; exact hnb
          have hcat2 : ¬ 9223372036854775807 < b.size + tm.size := by omega
          clear hnb hng
          have HCB := Lib.hid hcn
          clear hcn
          obtain rfl := HTE.out
          go_wp2_with (fail)
          refine Calls.mono (c_nameOf p a d cap k _ hd (by omega)) ?_
          rintro e z2 ⟨rfl, g2⟩
          replace HZ := Lib.hid (HZ.out.trans g2)
          clear g2 s0 s1
          go_wp2_with (fail)
          refine Calls.mono (c_HasPrefix c t _ _ HCB.out) ?_
          rintro e z3 ⟨rfl, g3⟩
          replace HZ := Lib.hid (HZ.out.trans g3)
          clear g3
          go_wp2_with (fail)
          go_roundw
          case rel => exact ⟨k + 1, _, by omega, by go_num, rfl, Lib.hid (by rw [outS_join HNZ.out, ← HTM.out, HJ.out]), HZ⟩
          case measure => simp [intOf]; omega
      · skip
        have HJ := Lib.hid (show joinB (outS p xs d k) tm (negB p (nth xs k)) = b ++ tm by rw [← HB.out]; exact join_A hnb)
        have hbl : b.toList.isEmpty = true := by rw [nil_empty]; exact hnb
        have hcat2 : ¬ 9223372036854775807 < b.size + tm.size := by omega
        clear hnb
        obtain rfl := HTE.out
        go_wp2_with (fail)
        refine Calls.mono (c_nameOf p a d cap k _ hd (by omega)) ?_
        rintro e z2 ⟨rfl, g2⟩
        replace HZ := Lib.hid (HZ.out.trans g2)
        clear g2 s0 s1
        go_wp2_with (fail)
        go_roundw
        case rel => exact ⟨k + 1, _, by omega, by go_num, rfl, Lib.hid (by rw [outS_join HNZ.out, ← HTM.out, HJ.out]), HZ⟩
        case measure => simp [intOf]; omega
    · obtain rfl : k = n := by omega
      cases hnb : nilB b
      · have HM := Lib.hid (show S = b by rw [HS.out]; unfold multiT; rw [← HB.out, hnb]; rfl)
        have hbl : b.toList.isEmpty = false := by rw [nil_empty]; exact hnb
        clear hnb
        go_wp2_with (fail)
        go_ret
        exact ⟨by rw [HM.out]; rfl, gW.out.trans HY.out⟩
      · have HM := Lib.hid (show S = ⟨#[48]⟩ by rw [HS.out]; unfold multiT; rw [← HB.out, hnb]; rfl)
        have hbl : b.toList.isEmpty = true := by rw [nil_empty]; exact hnb
        clear hnb
        go_wp2_with (fail)
        go_ret
        exact ⟨by rw [HM.out]; rfl, gW.out.trans HY.out⟩

end Go.Proofs.YtdccileoiiafmaaDoor
