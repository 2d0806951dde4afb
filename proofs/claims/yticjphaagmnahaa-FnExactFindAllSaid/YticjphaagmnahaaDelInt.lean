/- slices.IndexFunc and slices.DeleteFunc at rows of numbers. -/
import Derived.Test.YticjphaagmnahaaRGround
import Derived.Shelf.Abstract
namespace Go.Proofs.Yticjphaagmnahaa
open Go Go.RowKit Go.BigFrame
set_option linter.unusedVariables false
set_option linter.unusedSimpArgs false
set_option maxHeartbeats 4000000 in
theorem indexIntF_c (g : Nat) (caps : Array Value) (p : Int → Bool) (ms : List Int) (v : Value) (w : World) (hm : SliceK intD w v ms)
    (eg : ∀ args w, (callFunc g args).run Try.prog w = .ok (.enter g args) w)
    (hc : ∀ (m : Int) (W : World), Below w.heap.size w W → Calls Try.prog g (#[.int .i64 m] ++ caps) W fun e W' => e = .returned (.bool (p m)) ∧ Below W.heap.size W W') :
    Calls Try.prog 118 #[v, .func (.func g) #[] caps] w fun e w' => e = .returned (.int .i64 (idxP p ms)) ∧ Below w.heap.size w w' := by
  obtain ⟨A, c, rfl, hl, hmx, hra⟩ := hm
  have HA := hide hra
  have HC := hide hc
  clear hra hc
  go_enter Try.func118, Try.ntmps118
  go_wp2_with fail
  go_loopg [8] ms.length (fun gg s8 wr => ∃ k : Nat, k ≤ ms.length ∧ ms.length - k ≤ gg ∧ s8 = .int .i64 k ∧ Hid (∀ j y, j < k → ms[j]? = some y → p y = false) ∧ Hid (Below w.heap.size w wr))
  case atStart => exact ⟨0, Nat.zero_le _, by omega, rfl, hide (by intro j y hj; omega), Below.refl _ _⟩
  case round =>
    obtain ⟨k, hk, hg, rfl, HT, HB⟩ := hrel
    by_cases hlt : k < ms.length
    · obtain ⟨m, hx⟩ : ∃ m, ms[k]? = some m := ⟨_, List.getElem?_eq_getElem hlt⟩
      rcases HA.out with hnil | ⟨q, o2, rfl, hra⟩
      · rw [hnil] at hlt; simp at hlt
      obtain ⟨hq, hc0⟩ := int_at hra HB.out hx
      have HX := hide hx
      have hlt2 : (k : Int) < (ms.length : Int) := by omega
      clear hx hra HA
      by_cases hpm : p m = true
      · have HPM := hide hpm
        clear hpm
        go_wp2_with (first
          | (go_at_fn g
             refine (HC.out m _ HB.out).mono ?_
             rintro e w1 ⟨rfl, hb⟩
             rw [HPM.out]
             have HN := hide (HB.out.trans (hb.mono HB.out.size))
             clear hb))
        go_ret
        exact ⟨by rw [idxP_hit HT.out HX.out HPM.out]; rfl, HN.out⟩
      · have HPM := hide (show p m = false by simpa using hpm)
        clear hpm
        go_wp2_with (first
          | (go_at_fn g
             refine (HC.out m _ HB.out).mono ?_
             rintro e w1 ⟨rfl, hb⟩
             rw [HPM.out]
             have HN := hide (HB.out.trans (hb.mono HB.out.size))
             clear hb))
        go_roundg (ms.length - (k + 1))
        case measure => omega
        case rel => exact ⟨k + 1, by omega, by omega, by go_num, hide (idxP_step HT.out HX.out HPM.out), HN⟩
    · have : k = ms.length := by omega
      subst this
      have hr := hide (idxP_miss HT.out)
      clear HA HC
      go_wp2_with fail
      go_ret
      exact ⟨by rw [hr.out]; rfl, HB.out⟩
theorem zeroInt (w : World) : (zeroValue 2).run Try.prog w = .ok (.int .i64 0) w := by kernel_rfl
set_option maxHeartbeats 8000000 in
set_option maxRecDepth 100000 in
theorem delInt_c (g : Nat) (caps : Array Value) (p : Int → Bool) (xs : List Int) (A : Option Addr) (c : Nat) (F : List Nat) (w0 W : World) (L : List Piece)
    (hS : St w0 W (own intD 2 (.slice A xs.length c) xs F :: L)) (hlen : xs.length ≤ 1048576) (eg : ∀ args w, (callFunc g args).run Try.prog w = .ok (.enter g args) w)
    (hc : ∀ (m : Int) (W' : World) (B : Piece), St w0 W' (B :: L) → Calls Try.prog g (#[.int .i64 m] ++ caps) W' fun e W'' => e = .returned (.bool (p m)) ∧ Below W'.heap.size W' W'') :
    Calls Try.prog 58 #[.slice A xs.length c, .func (.func g) #[] caps] W (RetOwn intD 2 w0 L (dropP p xs)) := by
  have HS0 := hide hS
  have HC := hide hc
  clear hS hc
  have egI := eg
  by_cases hn : 0 ≤ idxP p xs
  · obtain ⟨k, x, hk, hlk, hx, hpx⟩ := idxP_found hn
    have hA : ∃ b, A = some ⟨b, 0, none⟩ := by
      rcases flat_M (show SliceM (Dt.flat _ _ _ _) _ _ _ _ _ from HS0.out.head) with ⟨h0, _⟩ | ⟨b, cap, cur, hv, _⟩
      · simp only [Value.slice.injEq] at h0; omega
      · simp only [Value.slice.injEq] at hv; exact ⟨b, hv.1⟩
    obtain ⟨b, rfl⟩ := hA
    have HK := hide (DelAt.start hk hx hpx)
    have hlc : xs.length ≤ c := by
      obtain ⟨A2, c2, hv, h2, h3, _⟩ := HS0.out.toK
      simp only [Value.slice.injEq] at hv; omega
    have hcm : c ≤ 9223372036854775807 := by
      obtain ⟨A2, c2, hv, h2, h3, _⟩ := HS0.out.toK
      simp only [Value.slice.injEq] at hv; omega
    have hk1 : ¬ (k : Int) = -1 := by omega
    clear hn hx hpx
    go_enter Try.func58, Try.ntmps58
    go_wp2_with (first
      | (go_at_call 118
         refine (indexIntF_c g caps p xs _ _ HS0.out.toK eg (fun m W hb => HC.out m W _ (HS0.out.by hb))).mono ?_
         rintro e w1 ⟨rfl, hb⟩
         rw [hk]
         have HS1 := hide (HS0.out.by hb)
         clear hb))
    clear hk
    go_loopg [5, 6] xs.length (fun gg s5 s6 wr => ∃ (i j : Nat) (cur : List Int) (F1 : List Nat), i < j ∧ j ≤ xs.length ∧ cur.length = xs.length ∧ xs.length - j ≤ gg ∧ s5 = .int .i64 i ∧ s6 = .int .i64 j ∧ Hid (DelAt p xs cur i j) ∧ Hid (St w0 wr (own intD 2 (.slice (some ⟨b, 0, none⟩) cur.length c) cur F1 :: L)))
    case atStart => exact ⟨k, k + 1, xs, F, by omega, by omega, rfl, by omega, rfl, by go_num, HK, HS1⟩
    case round =>
      obtain ⟨i, j, cur, F1, hij, hjn, hcl, hg, rfl, rfl, HD, HS⟩ := hrel
      by_cases hlt : j < xs.length
      · obtain ⟨x, hx⟩ : ∃ x, xs[j]? = some x := ⟨_, List.getElem?_eq_getElem hlt⟩
        obtain ⟨y, hy⟩ : ∃ y, cur[i]? = some y := ⟨_, List.getElem?_eq_getElem (by omega)⟩
        have HG := hide hy
        have HX := hide hx
        obtain ⟨hcw, hfw, hzw⟩ := St.flatCell (d := intD) rfl HS.out (HD.out.get hx)
        have c0 : wr.cell? ⟨b, j, none⟩ = some (.int .i64 x) := by have h := hcw 0 _ rfl; simpa using h
        have hlt2 : (j : Int) < (xs.length : Int) := by omega
        have hlt3 : (i : Int) < (xs.length : Int) := by omega
        have hil : i < cur.length := by omega
        clear hx hy hcw hcl
        by_cases hpx : p x = true
        · have HPX := hide hpx
          clear hpx
          go_wp2_with (first
            | (go_at_fn g
               refine (HC.out x _ (own intD 2 (.slice (some ⟨b, 0, none⟩) cur.length c) cur F1) HS.out).mono ?_
               rintro e w2 ⟨rfl, hb⟩
               rw [HPX.out]
               have HS2 := hide (HS.out.by hb)
               obtain ⟨hcw, hfw, hzw⟩ := St.flatCell (d := intD) rfl HS2.out HG.out
               have d0 : w2.cell? ⟨b, i, none⟩ = some (.int .i64 y) := by have h := hcw 0 _ rfl; simpa using h
               clear hb hcw))
          go_roundg (xs.length - (j + 1))
          case measure => omega
          case rel => exact ⟨i, j + 1, cur, F1, by omega, by omega, HD.out.len, by omega, rfl, by go_num, hide (HD.out.skip HX.out HPX.out), HS2⟩
        · have HPX := hide (show p x = false by simpa using hpx)
          clear hpx
          go_wp2_with (first
            | (go_at_fn g
               refine (HC.out x _ (own intD 2 (.slice (some ⟨b, 0, none⟩) cur.length c) cur F1) HS.out).mono ?_
               rintro e w2 ⟨rfl, hb⟩
               rw [HPX.out]
               have HS2 := hide (HS.out.by hb)
               obtain ⟨hcw, hfw, hzw⟩ := St.flatCell (d := intD) rfl HS2.out HG.out
               have d0 : w2.cell? ⟨b, i, none⟩ = some (.int .i64 y) := by have h := hcw 0 _ rfl; simpa using h
               clear hb hcw))
          go_roundg (xs.length - (j + 1))
          case measure => omega
          case rel =>
            have hS3 := St.setFlat (d := intD) (x' := x) rfl HS2.out HG.out (j := 0) (o := i) (u := .int .i64 x) (by omega) rfl (by omega)
            refine ⟨i + 1, j + 1, cur.set i x, F1, by omega, by omega, by have := HD.out.len; simpa using this, by omega, by go_num, by go_num, hide (HD.out.keep HX.out HPX.out), hide ?_⟩
            rw [List.length_set]
            exact hS3
      · obtain rfl : j = xs.length := by omega
        have hDone := hide HD.out.done
        have hin : i < xs.length := by omega
        obtain ⟨vs, hcl2⟩ := run_clear_flat (P := Try.prog) (n := 1) wr 28 2 _ Try.underlying28 zeroInt rfl (by simp [Value.cells, Value.oneCell']) b i (xs.length - i) (c - i) (by omega) (fun q hq => St.flatSome (d := intD) rfl HS.out _ (by
          rw [hcl]; omega)) (fun q => (St.flatCell (d := intD) (k := i) rfl HS.out (List.getElem?_eq_getElem (by omega))).2.1 q)
        clear hcl
        go_wp2_with fail
        go_ret
        obtain ⟨hd1, hd2⟩ := hDone.out
        have hS9 := St.cutFlat (d := intD) rfl HS.out (i := i) (by have := HD.out.len; omega) vs
        rw [hd1, Nat.mul_one] at hS9
        refine ⟨some ⟨b, 0, none⟩, c, F1, by rw [hd2]; rfl, ?_⟩
        rw [hd2]; exact hS9
  · have HV := hide (dropP_none (p := p) (xs := xs) (by omega))
    have hkn : idxP p xs = -1 := idxP_neg (by omega)
    clear hn
    go_enter Try.func58, Try.ntmps58
    go_wp2_with (first
      | (go_at_call 118
         refine (indexIntF_c g caps p xs _ _ HS0.out.toK eg (fun m W hb => HC.out m W _ (HS0.out.by hb))).mono ?_
         rintro e w1 ⟨rfl, hb⟩
         rw [hkn]
         have HS1 := hide (HS0.out.by hb)
         clear hb))
    go_ret
    rw [HV.out]
    exact ⟨A, c, F, rfl, HS1.out⟩
end Go.Proofs.Yticjphaagmnahaa
