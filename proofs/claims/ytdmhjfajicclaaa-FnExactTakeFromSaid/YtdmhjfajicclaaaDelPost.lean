/- slices.Delete at rows of flat values. -/
import Derived.Test.YtdmhjfajicclaaaStFit
import Derived.Test.YtdmhjfajicclaaaRGround
import Derived.Test.YtdmhjfajicclaaaHelds
import Derived.Deep.RegionLaw
import Derived.Deep.DrawnRows
namespace Go.Proofs.Ytdmhjfajicclaaa
open Go Go.RowKit Go.BigFrame
set_option linter.unusedVariables false
set_option linter.unusedSimpArgs false
attribute [local go_sem ↓] Go.wp_at_zero Go.wp_at_succ
theorem zeroDelBox (w : World) : (zeroValue 53).run Try.prog w = .ok (.agg #[(.string ⟨#[]⟩), (.int .i64 0), (.int .i64 0), (.slice none 0 0)]) w := by kernel_rfl
set_option maxHeartbeats 8000000 in
set_option maxRecDepth 100000 in
theorem delBox_c (i j : Nat) (xs : List (Raw 4)) (A : Option Addr) (c : Nat) (F : List Nat) (w0 W : World) (L : List Piece) (hS : St w0 W (own (rawD 4) 53 (.slice A xs.length c) xs F :: L)) (hij : i ≤ j) (hj : j ≤ xs.length) (hlen : xs.length ≤ 1048576) :
    Calls Try.prog 33 #[.slice A xs.length c, .int .i64 i, .int .i64 j] W (RetOwn (rawD 4) 53 w0 L (xs.take i ++ xs.drop j)) := by
  have HS := hide hS
  have hlc : xs.length ≤ c := by obtain ⟨A2, c2, hv, h2, h3, _⟩ := hS.toK; simp only [Value.slice.injEq] at hv; omega
  have hcm : c ≤ 9223372036854775807 := by obtain ⟨A2, c2, hv, h2, h3, _⟩ := hS.toK; simp only [Value.slice.injEq] at hv; omega
  clear hS
  by_cases hne : i = j
  · subst hne
    rw [List.take_append_drop]
    by_cases hli : xs.length = i
    · go_enter Try.func33, Try.ntmps33
      go_wp2_with fail
      go_ret
      exact ⟨A, c, F, by rw [hli]; rfl, HS.out⟩
    · go_enter Try.func33, Try.ntmps33
      go_wp2_with fail
      go_ret
      exact ⟨A, c, F, rfl, HS.out⟩
  · have hxl : 0 < xs.length := by omega
    obtain ⟨⟨b, rfl⟩, -, -⟩ := St.hasBlk (d := rawD 4) rfl HS.out (List.getElem?_eq_getElem hxl)
    by_cases hcj : c = j
    · have hlj : xs.length = j := by omega
      have HBK := hide (show SliceK (rawD 4) W (.slice (some ⟨b, 0, none⟩) 0 0) (xs.drop j) by
        rw [List.drop_of_length_le (by omega)]
        exact ⟨_, _, rfl, Nat.le_refl _, by omega, .inl rfl⟩)
      subst hcj
      clear hlj
      have hij2 : ((i : Int) == (c : Int)) = false := by simp; omega
      have hi : i ≤ xs.length := by omega
      have hdl : (xs.drop c).length = 0 := by rw [List.length_drop]; omega
      have hroom : i + (xs.drop c).length ≤ c := by omega
      have hnl : ((i : Nat) : Int) ≤ (xs.length : Int) := by omega
      have hic : i ≤ c := by omega
      have hnc : ¬ c = i := by omega
      have hli : ¬ xs.length = i := by omega
      go_enter Try.func33, Try.ntmps33
      go_wp2_with fail
      go_region_law (
        refine step_fit_st (d := rawD 4) (w0 := w0) rfl rfl (.tmp 22) (.tmp 25) 26 rfl (.agg #[(.string ⟨#[]⟩), (.int .i64 0), (.int .i64 0), (.slice none 0 0)]) 56 (by omega) Try.underlying26 infoRaw b c i xs (xs.drop c) F HS.out.drew hi hroom (by simp [Act.eval, Act.put]) (some ⟨b, 0, none⟩) 0 0 (by simp [Act.eval, Act.put]) hdl.symm HBK.out ?_
        intro w1 hS1 hc1 hf1
        rw [hdl, Nat.add_zero] at hS1
        have HS1 := hide hS1
        obtain ⟨vs, hcl2⟩ := run_clear_flat (P := Try.prog) (n := 4) w1 26 53 _ Try.underlying26 zeroDelBox rfl (by simp [Value.cells, Value.oneCell']) b (i * 4) (xs.length - i) (c - i) (by omega) (fun q hq => hc1 _ (by omega)) hf1
        clear hS1 hc1 hf1)
      all_goals
        go_wp2_with fail
        go_ret
        have hS9 := St.cutFlat (d := rawD 4) rfl (xs := xs.take i ++ xs.drop c) (by simp only [List.length_append, List.length_take, hdl, Nat.add_zero]; rw [Nat.min_eq_left hi]; exact HS1.out) (i := i) (by simp only [List.length_append, List.length_take, hdl, Nat.add_zero]; omega) vs
        rw [List.take_of_length_le (by simp only [List.length_append, List.length_take, hdl, Nat.add_zero]; omega)] at hS9
        refine ⟨some ⟨b, 0, none⟩, c, F, ?_, ?_⟩
        · simp only [List.length_append, List.length_take, hdl, Nat.add_zero]; rw [Nat.min_eq_left hi]; rfl
        · simp only [List.length_append, List.length_take, hdl, Nat.add_zero]; rw [Nat.min_eq_left hi]; exact hS9
    · have HBK := hide (show SliceK (rawD 4) W (.slice (some ⟨b, j * 4, none⟩) (xs.length - j) (c - j)) (xs.drop j) by
        have h2 := SliceK.back2 HS.out.toK hj hcj
        rw [Nat.zero_add] at h2
        exact h2)
      have hij2 : ((i : Int) == (j : Int)) = false := by simp; omega
      have hi : i ≤ xs.length := by omega
      have hdl : (xs.drop j).length = xs.length - j := List.length_drop
      have hroom : i + (xs.drop j).length ≤ c := by omega
      have hnl : ((i + (xs.length - j) : Nat) : Int) ≤ (xs.length : Int) := by omega
      have hic : i ≤ c := by omega
      have hnc : ¬ c = i + (xs.length - j) := by omega
      have hli : ¬ xs.length = i := by omega
      go_enter Try.func33, Try.ntmps33
      go_wp2_with fail
      go_region_law (
        refine step_fit_st (d := rawD 4) (w0 := w0) rfl rfl (.tmp 22) (.tmp 25) 26 rfl (.agg #[(.string ⟨#[]⟩), (.int .i64 0), (.int .i64 0), (.slice none 0 0)]) 56 (by omega) Try.underlying26 infoRaw b c i xs (xs.drop j) F HS.out.drew hi hroom (by simp [Act.eval, Act.put]) (some ⟨b, j * 4, none⟩) (xs.length - j) (c - j) (by simp [Act.eval, Act.put]) hdl.symm HBK.out ?_
        intro w1 hS1 hc1 hf1
        rw [hdl] at hS1
        have HS1 := hide hS1
        obtain ⟨vs, hcl2⟩ := run_clear_flat (P := Try.prog) (n := 4) w1 26 53 _ Try.underlying26 zeroDelBox rfl (by simp [Value.cells, Value.oneCell']) b ((i + (xs.length - j)) * 4) (xs.length - (i + (xs.length - j))) (c - (i + (xs.length - j))) (by omega) (fun q hq => hc1 _ (by omega)) hf1
        clear hS1 hc1 hf1)
      all_goals
        go_wp2_with fail
        go_ret
        have hS9 := St.cutFlat (d := rawD 4) rfl (xs := xs.take i ++ xs.drop j) (by simp only [List.length_append, List.length_take, hdl]; rw [Nat.min_eq_left hi]; exact HS1.out) (i := i + (xs.length - j)) (by simp only [List.length_append, List.length_take, hdl]; omega) vs
        rw [List.take_of_length_le (by simp only [List.length_append, List.length_take, hdl]; omega)] at hS9
        refine ⟨some ⟨b, 0, none⟩, c, F, ?_, ?_⟩
        · simp only [List.length_append, List.length_take, hdl]; rw [Nat.min_eq_left hi]; rfl
        · simp only [List.length_append, List.length_take, hdl]; rw [Nat.min_eq_left hi]; exact hS9
theorem zeroDelParcel (w : World) : (zeroValue 68).run Try.prog w = .ok (.agg #[.int .i64 0, .int .i64 0]) w := by kernel_rfl
set_option maxHeartbeats 8000000 in
set_option maxRecDepth 100000 in
theorem delParcel_c (i j : Nat) (xs : List (Parcel)) (A : Option Addr) (c : Nat) (F : List Nat) (w0 W : World) (L : List Piece) (hS : St w0 W (own (parcelD) 68 (.slice A xs.length c) xs F :: L)) (hij : i ≤ j) (hj : j ≤ xs.length) (hlen : xs.length ≤ 1048576) :
    Calls Try.prog 64 #[.slice A xs.length c, .int .i64 i, .int .i64 j] W (RetOwn (parcelD) 68 w0 L (xs.take i ++ xs.drop j)) := by
  have HS := hide hS
  have hlc : xs.length ≤ c := by obtain ⟨A2, c2, hv, h2, h3, _⟩ := hS.toK; simp only [Value.slice.injEq] at hv; omega
  have hcm : c ≤ 9223372036854775807 := by obtain ⟨A2, c2, hv, h2, h3, _⟩ := hS.toK; simp only [Value.slice.injEq] at hv; omega
  clear hS
  by_cases hne : i = j
  · subst hne
    rw [List.take_append_drop]
    by_cases hli : xs.length = i
    · go_enter Try.func64, Try.ntmps64
      go_wp2_with fail
      go_ret
      exact ⟨A, c, F, by rw [hli]; rfl, HS.out⟩
    · go_enter Try.func64, Try.ntmps64
      go_wp2_with fail
      go_ret
      exact ⟨A, c, F, rfl, HS.out⟩
  · have hxl : 0 < xs.length := by omega
    obtain ⟨⟨b, rfl⟩, -, -⟩ := St.hasBlk (d := parcelD) rfl HS.out (List.getElem?_eq_getElem hxl)
    by_cases hcj : c = j
    · have hlj : xs.length = j := by omega
      have HBK := hide (show SliceK (parcelD) W (.slice (some ⟨b, 0, none⟩) 0 0) (xs.drop j) by
        rw [List.drop_of_length_le (by omega)]
        exact ⟨_, _, rfl, Nat.le_refl _, by omega, .inl rfl⟩)
      subst hcj
      clear hlj
      have hij2 : ((i : Int) == (c : Int)) = false := by simp; omega
      have hi : i ≤ xs.length := by omega
      have hdl : (xs.drop c).length = 0 := by rw [List.length_drop]; omega
      have hroom : i + (xs.drop c).length ≤ c := by omega
      have hnl : ((i : Nat) : Int) ≤ (xs.length : Int) := by omega
      have hic : i ≤ c := by omega
      have hnc : ¬ c = i := by omega
      have hli : ¬ xs.length = i := by omega
      go_enter Try.func64, Try.ntmps64
      go_wp2_with fail
      go_region_law (
        refine step_fit_st (d := parcelD) (w0 := w0) rfl rfl (.tmp 22) (.tmp 25) 35 rfl (.agg #[.int .i64 0, .int .i64 0]) 16 (by omega) Try.underlying35 infoParcel b c i xs (xs.drop c) F HS.out.drew hi hroom (by simp [Act.eval, Act.put]) (some ⟨b, 0, none⟩) 0 0 (by simp [Act.eval, Act.put]) hdl.symm HBK.out ?_
        intro w1 hS1 hc1 hf1
        rw [hdl, Nat.add_zero] at hS1
        have HS1 := hide hS1
        obtain ⟨vs, hcl2⟩ := run_clear_flat (P := Try.prog) (n := 2) w1 35 68 _ Try.underlying35 zeroDelParcel rfl (by simp [Value.cells, Value.oneCell']) b (i * 2) (xs.length - i) (c - i) (by omega) (fun q hq => hc1 _ (by omega)) hf1
        clear hS1 hc1 hf1)
      all_goals
        go_wp2_with fail
        go_ret
        have hS9 := St.cutFlat (d := parcelD) rfl (xs := xs.take i ++ xs.drop c) (by simp only [List.length_append, List.length_take, hdl, Nat.add_zero]; rw [Nat.min_eq_left hi]; exact HS1.out) (i := i) (by simp only [List.length_append, List.length_take, hdl, Nat.add_zero]; omega) vs
        rw [List.take_of_length_le (by simp only [List.length_append, List.length_take, hdl, Nat.add_zero]; omega)] at hS9
        refine ⟨some ⟨b, 0, none⟩, c, F, ?_, ?_⟩
        · simp only [List.length_append, List.length_take, hdl, Nat.add_zero]; rw [Nat.min_eq_left hi]; rfl
        · simp only [List.length_append, List.length_take, hdl, Nat.add_zero]; rw [Nat.min_eq_left hi]; exact hS9
    · have HBK := hide (show SliceK (parcelD) W (.slice (some ⟨b, j * 2, none⟩) (xs.length - j) (c - j)) (xs.drop j) by
        have h2 := SliceK.back2 HS.out.toK hj hcj
        rw [Nat.zero_add] at h2
        exact h2)
      have hij2 : ((i : Int) == (j : Int)) = false := by simp; omega
      have hi : i ≤ xs.length := by omega
      have hdl : (xs.drop j).length = xs.length - j := List.length_drop
      have hroom : i + (xs.drop j).length ≤ c := by omega
      have hnl : ((i + (xs.length - j) : Nat) : Int) ≤ (xs.length : Int) := by omega
      have hic : i ≤ c := by omega
      have hnc : ¬ c = i + (xs.length - j) := by omega
      have hli : ¬ xs.length = i := by omega
      go_enter Try.func64, Try.ntmps64
      go_wp2_with fail
      go_region_law (
        refine step_fit_st (d := parcelD) (w0 := w0) rfl rfl (.tmp 22) (.tmp 25) 35 rfl (.agg #[.int .i64 0, .int .i64 0]) 16 (by omega) Try.underlying35 infoParcel b c i xs (xs.drop j) F HS.out.drew hi hroom (by simp [Act.eval, Act.put]) (some ⟨b, j * 2, none⟩) (xs.length - j) (c - j) (by simp [Act.eval, Act.put]) hdl.symm HBK.out ?_
        intro w1 hS1 hc1 hf1
        rw [hdl] at hS1
        have HS1 := hide hS1
        obtain ⟨vs, hcl2⟩ := run_clear_flat (P := Try.prog) (n := 2) w1 35 68 _ Try.underlying35 zeroDelParcel rfl (by simp [Value.cells, Value.oneCell']) b ((i + (xs.length - j)) * 2) (xs.length - (i + (xs.length - j))) (c - (i + (xs.length - j))) (by omega) (fun q hq => hc1 _ (by omega)) hf1
        clear hS1 hc1 hf1)
      all_goals
        go_wp2_with fail
        go_ret
        have hS9 := St.cutFlat (d := parcelD) rfl (xs := xs.take i ++ xs.drop j) (by simp only [List.length_append, List.length_take, hdl]; rw [Nat.min_eq_left hi]; exact HS1.out) (i := i + (xs.length - j)) (by simp only [List.length_append, List.length_take, hdl]; omega) vs
        rw [List.take_of_length_le (by simp only [List.length_append, List.length_take, hdl]; omega)] at hS9
        refine ⟨some ⟨b, 0, none⟩, c, F, ?_, ?_⟩
        · simp only [List.length_append, List.length_take, hdl]; rw [Nat.min_eq_left hi]; rfl
        · simp only [List.length_append, List.length_take, hdl]; rw [Nat.min_eq_left hi]; exact hS9
end Go.Proofs.Ytdmhjfajicclaaa
