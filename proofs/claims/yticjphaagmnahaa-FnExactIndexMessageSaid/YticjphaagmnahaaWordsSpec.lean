/- The words of a text: the reference. -/
import Derived.Test.YticjphaagmnahaaRuns
import Derived.Laws.IdiomStrings
namespace Go.Proofs.Yticjphaagmnahaa
open Go Go.RowKit Go.BigFrame
set_option linter.unusedVariables false
set_option linter.unusedSimpArgs false

theorem isW_low {c : UInt8} (h : isW c = true) : (((l06C c).toNat : Int) != 0) = true := by
  have h2 := l06_zero c
  rw [show wbB (lowerC c) = true from h, Bool.not_true] at h2
  have h3 : ¬ l06C c = 0 := of_decide_eq_false h2
  rw [bne_iff_ne]
  intro e
  exact h3 (UInt8.toNat_inj.1 (by simpa using e))
theorem notW_low {c : UInt8} (h : isW c = false) : (((l06C c).toNat : Int) != 0) = false := by
  have h2 := l06_zero c
  rw [show wbB (lowerC c) = false from h, Bool.not_false] at h2
  have h3 : l06C c = 0 := of_decide_eq_true h2
  rw [h3]; rfl
set_option maxHeartbeats 4000000 in
set_option maxRecDepth 100000 in
theorem l06End_c (s : ByteArray) (i : Nat) (w : World) (hi : i ≤ s.size) (hs : s.size ≤ 1048576) :
    Calls Try.prog 128 #[.string s, .int .i64 i] w fun e w' => (∃ j : Nat, e = .returned (.int .i64 j) ∧ i ≤ j ∧ j ≤ s.size ∧ (∀ c ∈ (s.data.toList.drop i).take (j - i), isW c = true) ∧ (∀ c, (s.data.toList.drop i)[j - i]? = some c → isW c = false)) ∧ w = w' := by
  go_enter Try.func128, Try.ntmps128
  go_wp2_with fail
  go_loopg [1] (s.size - i) (fun gg s1 wr => ∃ j : Nat, i ≤ j ∧ j ≤ s.size ∧ s.size - j ≤ gg ∧ s1 = .int .i64 j ∧ Hid (∀ c ∈ (s.data.toList.drop i).take (j - i), isW c = true) ∧ w = wr)
  case atStart => exact ⟨i, Nat.le_refl _, hi, Nat.le_refl _, rfl, hide (by rw [Nat.sub_self]; simp), rfl⟩
  case round =>
    obtain ⟨j, hij, hjl, hg, rfl, HALL, rfl⟩ := hrel
    by_cases hlj : j < s.size
    · by_cases hw : isW s[j] = true
      · have HL := isW_low hw
        go_wp2_with (go_at_call 144; refine (l06Low_c _ _).mono ?_; rintro e w' ⟨rfl, rfl⟩)
        go_roundg (s.size - (j + 1))
        case measure => omega
        case rel =>
          refine ⟨j + 1, by omega, by omega, by omega, by go_num, hide ?_, rfl⟩
          rw [show j + 1 - i = j - i + 1 by omega]
          exact take_isW (drop_at hij hlj) hw HALL.out
      · have hwf : isW s[j] = false := by simpa using hw
        have HL := notW_low hwf
        go_wp2_with (go_at_call 144; refine (l06Low_c _ _).mono ?_; rintro e w' ⟨rfl, rfl⟩)
        go_ret
        exact ⟨⟨j, rfl, hij, hjl, HALL.out, fun c hc => by rw [drop_at hij hlj] at hc; cases hc; exact hwf⟩, rfl⟩
    · obtain rfl : j = s.size := by omega
      go_wp2_with fail
      go_ret
      exact ⟨⟨s.size, rfl, hij, hjl, HALL.out, fun c hc => (drop_none hc).elim⟩, rfl⟩
def byteD : Dt UInt8 := Dt.flat 1 (fun x : UInt8 => [.int .u8 (x.toNat : Int)]) (fun _ => rfl) (fun x u hu => by simp at hu; subst hu; rfl)
theorem infoByte : (Try.prog.info? 5).map (fun i => (i.zero, i.size, i.bytes)) = some (some (.int .u8 0), 1, 1) := by kernel_rfl
def lowL (l : List UInt8) : List UInt8 := l.map l06C
theorem low_step {l : List UInt8} {k : Nat} {c : UInt8} (h : l[k]? = some c) : (lowL l).take (k + 1) = (lowL l).take k ++ [l06C c] := by
  obtain ⟨hl, rfl⟩ := List.getElem?_eq_some_iff.1 h
  unfold lowL
  rw [List.take_succ_eq_append_getElem (by simpa using hl)]
  simp
set_option maxHeartbeats 8000000 in
set_option maxRecDepth 100000 in
theorem l06Word_c (t : ByteArray) (w : World) (ht : t.size ≤ 1048576) :
    Calls Try.prog 129 #[.string t] w fun e w' => e = .returned (.string ⟨(lowL t.data.toList).toArray⟩) ∧ Below w.heap.size w w' := by
  have HS0 := hide (St.empty (d := byteD) ((St.start w).alloc (k := w.heap.size) (arr := #[]) (e := 5) rfl))
  have hll : (lowL t.data.toList).length = t.size := by unfold lowL; simp
  go_enter Try.func129, Try.ntmps129
  go_wp2_with fail
  go_loopg [3, 4] t.size (fun gg s3 s4 wr => ∃ (k : Nat) (b9 c9 : Nat) (F9 : List Nat), k ≤ t.size ∧ t.size - k ≤ gg ∧ s4 = .int .i64 k ∧ s3 = .slice (some ⟨b9, 0, none⟩) k c9 ∧ Hid (St w wr [own byteD 5 (.slice (some ⟨b9, 0, none⟩) ((lowL t.data.toList).take k).length c9) ((lowL t.data.toList).take k) F9]))
  case atStart => exact ⟨0, _, _, _, Nat.zero_le _, by omega, rfl, rfl, HS0⟩
  case round =>
    obtain ⟨k, b9, c9, F9, hk, hg, rfl, rfl, HS⟩ := hrel
    have htl : ((lowL t.data.toList).take k).length = k := by rw [List.length_take]; omega
    by_cases hlt : k < t.size
    · have HST := hide (low_step (byte_at hlt))
      go_wp2_with (first
        | (go_at_call 144; refine (l06Low_c _ _).mono ?_; rintro e w' ⟨rfl, rfl⟩)
        | (at_builtin
           refine wpList_app1_st (d := byteD) (w0 := w) rfl _ rfl _ _ _ rfl (.int .u8 0) 1 Try.underlying134 infoByte rfl (by omega) (by omega) (.slice (some ⟨b9, 0, none⟩) ((lowL t.data.toList).take k).length c9) ((lowL t.data.toList).take k) F9 (by rw [htl]; rfl) wr.heap.size #[.int .u8 ((l06C t[k]).toNat : Int)] (HS.out.alloc rfl) 1 rfl (l06C t[k]) rfl (by omega) ?_
           intro g7 cap7 w7 F7 hS7
           have HS7 := hide hS7
           clear hS7))
      go_roundg (t.size - (k + 1))
      case measure => omega
      case rel =>
        refine ⟨k + 1, g7, cap7, F7, by omega, by omega, by go_num, rfl, hide ?_⟩
        rw [HST.out, List.length_append]; exact HS7.out
    · obtain rfl : k = t.size := by omega
      have hS := HS.out
      rw [← hll, List.take_length] at hS
      have hcv : (convert 134 9 (.slice (some ⟨b9, 0, none⟩) t.size c9)).run Try.prog wr = .ok (.string ⟨(lowL t.data.toList).toArray⟩) wr := by
        rw [← hll]
        refine run_convert_bytes_back wr 134 9 5 ⟨b9, 0, none⟩ c9 (lowL t.data.toList) Try.underlying134 Try.underlying5 Try.underlying9 (fun j hj => ?_)
        have h := (St.flatCell (d := byteD) rfl hS (List.getElem?_eq_getElem hj)).1 0 _ rfl
        rw [show (⟨b9, 0, none⟩ : Addr).add j = ⟨b9, j, none⟩ by unfold Addr.add; split <;> simp_all]
        simpa using h
      clear hS
      go_wp2_with fail
      go_ret
      exact ⟨rfl, HS.out.below⟩
theorem run_bytes {s : ByteArray} {i j : Nat} (hij : i ≤ j) (hjl : j ≤ s.size) (hall : ∀ c ∈ (s.data.toList.drop i).take (j - i), isW c = true) :
    lowL (s.extract i j).data.toList = ((s.data.toList.drop i).take (j - i)).map lowerC := by
  have h1 : (s.extract i j).data.toList = (s.data.toList.drop i).take (j - i) := by
    rw [ByteArray.data_extract, Array.toList_extract, List.extract_eq_take_drop]
  unfold lowL
  rw [h1]
  exact List.map_congr_left fun c hc => l06_low (hall c hc)
set_option maxHeartbeats 8000000 in
set_option maxRecDepth 100000 in
theorem l08Words_c (s : ByteArray) (w : World) (hs : s.size ≤ 1048576) :
    Calls Try.prog 75 #[.string s] w (RetMade strD 9 w (wordsOf s)) := by
  go_enter Try.func75, Try.ntmps75
  go_wp2_with fail
  go_loopg [3, 4] (s.size + 1) (fun gg s3 s4 wr => ∃ (i : Nat) (ws : List ByteArray) (A9 : Option Addr) (c9 : Nat) (F9 : List Nat), i ≤ s.size + 1 ∧ s.size + 1 - i ≤ gg ∧ s3 = .slice A9 ws.length c9 ∧ s4 = .int .i64 i ∧ Hid (ws ++ wordsL (s.data.toList.drop i) = wordsOf s) ∧ Hid (St w wr [own strD 9 (.slice A9 ws.length c9) ws F9]))
  case atStart => exact ⟨0, [], _, _, _, by omega, by omega, rfl, rfl, hide rfl, hide (St.empty ((St.start w).alloc rfl))⟩
  case round =>
    obtain ⟨i, ws, A9, c9, F9, hi, hg, rfl, rfl, HRS, HS⟩ := hrel
    by_cases hlt : i < s.size
    · by_cases hw : isW s[i] = true
      · have hwl := wordsOf_len s
        go_wp2_with (first
          | (go_at_call 128
             refine (l06End_c s i _ (by omega) hs).mono ?_
             rintro e w' ⟨⟨j, rfl, hij, hjl, hall, hend⟩, rfl⟩
             have hji : i < j := by
               rcases Nat.lt_or_ge i j with h | h
               · exact h
               · obtain rfl : j = i := by omega
                 have h5 := hend _ (drop_at (Nat.le_refl _) hlt)
                 rw [hw] at h5; cases h5
             have hji2 : (i : Int) < (j : Int) := by omega
             have hij2 : (i : Int) ≤ (j : Int) := by omega
             have hjl2 : (j : Int) ≤ (s.size : Int) := by omega
             have HRUN := hide (wordsL_run (l := s.data.toList.drop i) (n := j - i) (by omega) hall (by rw [List.length_drop]; have h9 : s.data.toList.length = s.size := (by simp); omega) hend)
             rw [List.drop_drop, show i + (j - i + 1) = j + 1 by omega] at HRUN
             have HWD := hide (show (⟨(lowL (s.extract i j).data.toList).toArray⟩ : ByteArray) = soFar (s.data.toList.drop i) (j - i) by rw [run_bytes hij hjl hall]; rfl)
             have hes : (s.extract i j).size ≤ 1048576 := by rw [ByteArray.size_extract]; omega
             have hlr : ws.length < 1048576 := by
               have h1 := congrArg List.length HRS.out
               rw [HRUN.out] at h1
               simp only [List.length_append, List.length_cons] at h1
               omega
             clear hall hend)
          | (go_at_call 129
             refine (l06Word_c _ _ hes).mono ?_
             rintro e w5 ⟨rfl, hb⟩
             rw [HWD.out]
             have HS5 := hide (HS.out.by hb)
             clear hb)
          | (at_builtin
             refine wpList_app1_st (d := strD) (w0 := w) rfl _ rfl _ _ _ rfl (.string ⟨#[]⟩) 16 Try.underlying25 infoStrW rfl (by omega) (by omega) (.slice A9 ws.length c9) ws F9 rfl w5.heap.size #[.string (soFar (s.data.toList.drop i) (j - i))] (HS5.out.alloc rfl) 1 rfl (soFar (s.data.toList.drop i) (j - i)) rfl hlr ?_
             intro g7 cap7 w7 F7 hS7
             have HS7 := hide hS7
             clear hS7))
        go_roundg (s.size + 1 - (j + 1))
        case measure => omega
        case rel =>
          refine ⟨j + 1, ws ++ [(soFar (s.data.toList.drop i) (j - i))], some ⟨g7, 0, none⟩, cap7, F7, by omega, by omega, by rw [List.length_append]; rfl, by go_num, hide ?_, hide ?_⟩
          · rw [List.append_assoc]
            have h := HRS.out
            rw [HRUN.out] at h
            exact h
          · rw [List.length_append]; exact HS7.out
      · have hwf : isW s[i] = false := by simpa using hw
        go_wp2_with (
          (go_at_call 128
           refine (l06End_c s i _ (by omega) hs).mono ?_
           rintro e w' ⟨⟨j, rfl, hij, hjl, hall, hend⟩, rfl⟩
           have hji : i = j := by
             rcases Nat.lt_or_ge i j with h | h
             · have h5 := hall s[i] (List.mem_of_getElem? (show ((s.data.toList.drop i).take (j - i))[0]? = some s[i] by rw [List.getElem?_take, if_pos (by omega), List.getElem?_drop]; exact byte_at hlt))
               rw [hwf] at h5; cases h5
             · omega
           subst hji
           clear hall hend))
        go_roundg (s.size + 1 - (i + 1))
        case measure => omega
        case rel =>
          refine ⟨i + 1, ws, A9, c9, F9, by omega, by omega, rfl, by go_num, hide ?_, HS⟩
          rw [← HRS.out]
          congr 1
          obtain ⟨hl, he⟩ := List.getElem?_eq_some_iff.1 (byte_at hlt)
          rw [List.drop_eq_getElem_cons hl, he, wordsL_skip hwf]
    · go_wp2_with fail
      go_ret
      have h9 := HRS.out
      rw [List.drop_eq_nil_of_le (by simp; omega), wordsL_nil, List.append_nil] at h9
      rw [← h9]
      exact ⟨_, rfl, ⟨F9, HS.out.head, HS.out.headN, HS.out.headG⟩, HS.out.below⟩
end Go.Proofs.Yticjphaagmnahaa
