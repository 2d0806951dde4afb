/- The runs and words of a text: the program. -/
import Derived.Test.YticjphaagmnahaaWordsPlain
import Derived.Test.YticjphaagmnahaaRGround
import Derived.Deep.RegionWith
import Derived.Deep.CutRange
namespace Go.Proofs.Yticjphaagmnahaa
open Go Go.RowKit Go.BigFrame
set_option linter.unusedVariables false
set_option linter.unusedSimpArgs false

structure Run where
  from_ : Int
  to_ : Int
  word : ByteArray
def runD : Dt Run := Dt.flat 3 (fun x : Run => [.int .i64 x.from_, .int .i64 x.to_, .string x.word]) (fun _ => rfl) (fun x u hu => by simp at hu; rcases hu with rfl | rfl | rfl <;> rfl)
theorem infoRun : (Try.prog.info? 144).map (fun i => (i.zero, i.size, i.bytes)) = some (some (.agg #[(.int .i64 0), (.int .i64 0), (.string ⟨#[]⟩)]), 3, 32) := by kernel_rfl
/-- A run's word so far. -/
def soFar (l : List UInt8) (n : Nat) : ByteArray := ⟨((l.take n).map lowerC).toArray⟩
theorem soFar_step {l : List UInt8} {n : Nat} {c : UInt8} (h : l[n]? = some c) : soFar l n ++ ⟨#[lowerC c]⟩ = soFar l (n + 1) := by
  obtain ⟨hl, rfl⟩ := List.getElem?_eq_some_iff.1 h
  unfold soFar
  rw [List.take_succ_eq_append_getElem hl, List.map_append]
  apply ByteArray.ext
  simp
theorem soFar_size (l : List UInt8) (n : Nat) : (soFar l n).size ≤ n := by
  unfold soFar
  show (((l.take n).map lowerC).toArray).size ≤ n
  simp
  omega
theorem take_isW {l : List UInt8} {n : Nat} {c : UInt8} (h : l[n]? = some c) (hc : isW c = true) (ha : ∀ x ∈ l.take n, isW x = true) : ∀ x ∈ l.take (n + 1), isW x = true := by
  obtain ⟨hl, rfl⟩ := List.getElem?_eq_some_iff.1 h
  rw [List.take_succ_eq_append_getElem hl]
  intro x hx
  rcases List.mem_append.1 hx with h | h
  · exact ha x h
  · rw [List.mem_singleton.1 h]; exact hc
theorem drop_at {s : ByteArray} {i j : Nat} (hij : i ≤ j) (h : j < s.size) : (s.data.toList.drop i)[j - i]? = some s[j] := by
  rw [List.getElem?_drop, show i + (j - i) = j by omega]; exact byte_at h
theorem drop_none {s : ByteArray} {i : Nat} {c : UInt8} : ¬ (s.data.toList.drop i)[s.size - i]? = some c := by
  intro h
  have := (List.getElem?_eq_some_iff.1 h).1
  rw [List.length_drop] at this
  have h2 : s.data.toList.length = s.size := by simp
  omega
set_option maxHeartbeats 8000000 in
set_option maxRecDepth 100000 in
theorem runsOf_c (s : ByteArray) (w : World) (hs : s.size ≤ 1048576) :
    Calls Try.prog 131 #[.string s] w fun e w' => ∃ rs, RetMade runD 144 w rs e w' ∧ rs.map Run.word = wordsOf s := by
  go_enter Try.func131, Try.ntmps131
  go_wp2_with fail
  go_loopg [3, 4] (s.size + 1) (fun gg s3 s4 wr => ∃ (i : Nat) (rs : List Run) (A9 : Option Addr) (c9 : Nat) (F9 : List Nat), i ≤ s.size + 1 ∧ s.size + 1 - i ≤ gg ∧ s3 = .slice A9 rs.length c9 ∧ s4 = .int .i64 i ∧ Hid (rs.map Run.word ++ wordsL (s.data.toList.drop i) = wordsOf s) ∧ Hid (St w wr [own runD 144 (.slice A9 rs.length c9) rs F9]))
  case atStart => exact ⟨0, [], _, _, _, by omega, by omega, rfl, rfl, hide rfl, hide (St.empty ((St.start w).alloc rfl))⟩
  case round =>
    obtain ⟨i, rs, A9, c9, F9, hi, hg, rfl, rfl, HRS, HS⟩ := hrel
    obtain ⟨wo, hwo⟩ : ∃ V, V = wr := ⟨_, rfl⟩
    rw [← hwo] at HS ⊢
    clear hwo
    by_cases hlt : i < s.size
    · by_cases hw : isW s[i] = true
      · have HW := hide (show wbB (lowerC s[i]) = true from hw)
        go_wp2_with (first
          | (go_at_call 155; refine (lower_c _ _).mono ?_; rintro e w' ⟨rfl, rfl⟩)
          | (go_at_call 145; refine (wordByte_c _ _).mono ?_; rintro e w' ⟨rfl, rfl⟩; rw [HW.out]))
        obtain ⟨B, hB⟩ : ∃ B, B = wo.heap.size := ⟨_, rfl⟩
        rw [← hB]
        have HS1 := hide (HS.out.alloc (arr := #[.int .i64 i, .int .i64 0, .string ⟨#[]⟩]) (e := 144) hB)
        clear hB
        go_loopg [4] (s.size - i) (fun gg s4 wr => ∃ j : Nat, i ≤ j ∧ j ≤ s.size ∧ s.size - j ≤ gg ∧ s4 = .int .i64 j ∧ Hid (∀ c ∈ (s.data.toList.drop i).take (j - i), isW c = true) ∧ Hid (St w wr (blk B #[.int .i64 i, .int .i64 0, .string (soFar (s.data.toList.drop i) (j - i))] 144 :: [own runD 144 (.slice A9 rs.length c9) rs F9])))
        case atStart => exact ⟨i, Nat.le_refl _, by omega, by omega, rfl, hide (by rw [Nat.sub_self]; simp), hide (by rw [Nat.sub_self]; exact HS1.out)⟩
        case round =>
          obtain ⟨j, hij, hjl, hg2, rfl, HALL, HI⟩ := hrel
          by_cases hlj : j < s.size
          · by_cases hwj : isW s[j] = true
            · have HWJ := hide (show wbB (lowerC s[j]) = true from hwj)
              have henc := encode_word HWJ.out
              have hsz : (soFar (s.data.toList.drop i) (j - i)).size ≤ 9223372036854775806 := Nat.le_trans (soFar_size _ _) (by omega)
              have HSTEP := hide (soFar_step (drop_at hij hlj))
              obtain ⟨acc, hacc⟩ : ∃ acc, acc = soFar (s.data.toList.drop i) (j - i) := ⟨_, rfl⟩
              rw [← hacc] at hsz HSTEP HI
              have hsz2 : ¬ 9223372036854775807 < acc.size + 1 := by omega
              have HACC := hide hacc
              clear hacc
              obtain ⟨x0, x1, x2⟩ := HI.out.at0.c3
              have xf := HI.out.at0.frozen
              have xz := HI.out.at0.lt
              go_wp2_with (first
                | (go_at_call 155; refine (lower_c _ _).mono ?_; rintro e w' ⟨rfl, rfl⟩)
                | (go_at_call 145; refine (wordByte_c _ _).mono ?_; rintro e w' ⟨rfl, rfl⟩; rw [HWJ.out]))
              go_region_with ((go_at_call 155; refine (lower_c _ _).mono ?_; rintro e w' ⟨rfl, rfl⟩))
              all_goals
                go_wp2_with fail
                go_roundg (s.size - (j + 1))
                case measure => omega
                case rel =>
                  refine ⟨j + 1, by omega, by omega, by omega, by go_num, hide ?_, hide ?_⟩
                  · rw [show j + 1 - i = j - i + 1 by omega]; exact take_isW (drop_at hij hlj) hwj HALL.out
                  · rw [show j + 1 - i = j - i + 1 by omega, ← HSTEP.out]
                    (repeat (first | (with_reducible exact HI.out) | (with_reducible apply St.alloc) | (with_reducible apply St.set0) | (with_reducible apply St.set1) | (with_reducible apply St.set2) | (with_reducible apply St.set3) | (with_reducible apply St.drew) | (with_reducible apply St.drewN))); all_goals (try (first | rfl | (simp; done)))
            · have hwj : isW s[j] = false := by simpa using hwj
              have HWJ := hide (show wbB (lowerC s[j]) = false from hwj)
              have hji : i < j := by
                rcases Nat.lt_or_ge i j with h | h
                · exact h
                · obtain rfl : j = i := by omega
                  rw [hw] at hwj; cases hwj
              have HRUN := hide (wordsL_run (l := s.data.toList.drop i) (n := j - i) (by omega) HALL.out (by rw [List.length_drop]; have h9 : s.data.toList.length = s.size := (by simp); omega) (fun c hc => by rw [drop_at hij hlj] at hc; cases hc; exact hwj))
              rw [List.drop_drop, show i + (j - i + 1) = j + 1 by omega] at HRUN
              have hl2 := hide (wordsOf_len s)
              have hlr : rs.length < 1048576 := by
                have h1 := congrArg List.length HRS.out
                rw [HRUN.out] at h1
                have h2 := hl2.out
                simp only [List.length_append, List.length_map, List.length_cons] at h1
                omega
              clear hl2
              obtain ⟨x0, x1, x2⟩ := HI.out.at0.c3
              have xf := HI.out.at0.frozen
              have xz := HI.out.at0.lt
              go_wp2_with (first
                | (go_at_call 155; refine (lower_c _ _).mono ?_; rintro e w' ⟨rfl, rfl⟩) | (go_at_call 145; refine (wordByte_c _ _).mono ?_; rintro e w' ⟨rfl, rfl⟩; rw [HWJ.out])
                | (at_builtin
                   refine wpList_app1_st (d := runD) (w0 := w) rfl _ rfl _ _ _ rfl (.agg #[(.int .i64 0), (.int .i64 0), (.string ⟨#[]⟩)]) 32 Try.underlying141 infoRun rfl (by omega) (by omega) (.slice A9 rs.length c9) rs F9 rfl wr.heap.size #[.int .i64 i, .int .i64 j, .string (soFar (s.data.toList.drop i) (j - i))] (St.pull1 (St.pull2 (show St w _ (blk wr.heap.size #[.int .i64 i, .int .i64 j, .string (soFar (s.data.toList.drop i) (j - i))] 144 :: blk B #[.int .i64 i, .int .i64 j, .string (soFar (s.data.toList.drop i) (j - i))] 144 :: [own runD 144 (.slice A9 rs.length c9) rs F9]) from by (repeat (first | (with_reducible exact HI.out) | (with_reducible apply St.alloc) | (with_reducible apply St.set0) | (with_reducible apply St.set1) | (with_reducible apply St.set2) | (with_reducible apply St.set3) | (with_reducible apply St.drew) | (with_reducible apply St.drewN))); all_goals (try (first | rfl | (simp; done)))))) 1 rfl ⟨i, j, soFar (s.data.toList.drop i) (j - i)⟩ rfl hlr ?_
                   intro g7 cap7 w7 F7 hS7
                   have HS7 := hide hS7
                   clear hS7))
              go_roundg (s.size + 1 - (j + 1))
              case measure => omega
              case rel =>
                refine ⟨j + 1, rs ++ [⟨i, j, soFar (s.data.toList.drop i) (j - i)⟩], some ⟨g7, 0, none⟩, cap7, F7, by omega, by omega, by rw [List.length_append]; rfl, by go_num, hide ?_, hide ?_⟩
                · rw [List.map_append, List.append_assoc]
                  have h := HRS.out
                  rw [HRUN.out] at h
                  exact h
                · rw [List.length_append]; exact HS7.out.drop1
          · obtain rfl : j = s.size := by omega
            have HRUN := hide (wordsL_run (l := s.data.toList.drop i) (n := s.size - i) (by omega) HALL.out (by rw [List.length_drop]; have h9 : s.data.toList.length = s.size := (by simp); omega) (fun c hc => (drop_none hc).elim))
            rw [List.drop_drop, show i + (s.size - i + 1) = s.size + 1 by omega] at HRUN
            have hl2 := hide (wordsOf_len s)
            have hlr : rs.length < 1048576 := by
              have h1 := congrArg List.length HRS.out
              rw [HRUN.out] at h1
              have h2 := hl2.out
              simp only [List.length_append, List.length_map, List.length_cons] at h1
              omega
            clear hl2
            obtain ⟨x0, x1, x2⟩ := HI.out.at0.c3
            have xf := HI.out.at0.frozen
            have xz := HI.out.at0.lt
            go_wp2_with (first
              | fail
              | (at_builtin
                 refine wpList_app1_st (d := runD) (w0 := w) rfl _ rfl _ _ _ rfl (.agg #[(.int .i64 0), (.int .i64 0), (.string ⟨#[]⟩)]) 32 Try.underlying141 infoRun rfl (by omega) (by omega) (.slice A9 rs.length c9) rs F9 rfl wr.heap.size #[.int .i64 i, .int .i64 s.size, .string (soFar (s.data.toList.drop i) (s.size - i))] (St.pull1 (St.pull2 (show St w _ (blk wr.heap.size #[.int .i64 i, .int .i64 s.size, .string (soFar (s.data.toList.drop i) (s.size - i))] 144 :: blk B #[.int .i64 i, .int .i64 s.size, .string (soFar (s.data.toList.drop i) (s.size - i))] 144 :: [own runD 144 (.slice A9 rs.length c9) rs F9]) from by (repeat (first | (with_reducible exact HI.out) | (with_reducible apply St.alloc) | (with_reducible apply St.set0) | (with_reducible apply St.set1) | (with_reducible apply St.set2) | (with_reducible apply St.set3) | (with_reducible apply St.drew) | (with_reducible apply St.drewN))); all_goals (try (first | rfl | (simp; done)))))) 1 rfl ⟨i, s.size, soFar (s.data.toList.drop i) (s.size - i)⟩ rfl hlr ?_
                 intro g7 cap7 w7 F7 hS7
                 have HS7 := hide hS7
                 clear hS7))
            go_roundg (s.size + 1 - (s.size + 1))
            case measure => omega
            case rel =>
              refine ⟨s.size + 1, rs ++ [⟨i, s.size, soFar (s.data.toList.drop i) (s.size - i)⟩], some ⟨g7, 0, none⟩, cap7, F7, by omega, by omega, by rw [List.length_append]; rfl, by go_num, hide ?_, hide ?_⟩
              · rw [List.map_append, List.append_assoc]
                have h := HRS.out
                rw [HRUN.out] at h
                exact h
              · rw [List.length_append]; exact HS7.out.drop1
      · have hwf : isW s[i] = false := by simpa using hw
        have HW := hide (show wbB (lowerC s[i]) = false from hwf)
        go_wp2_with (first
          | (go_at_call 155; refine (lower_c _ _).mono ?_; rintro e w' ⟨rfl, rfl⟩)
          | (go_at_call 145; refine (wordByte_c _ _).mono ?_; rintro e w' ⟨rfl, rfl⟩; rw [HW.out]))
        go_roundg (s.size + 1 - (i + 1))
        case measure => omega
        case rel =>
          refine ⟨i + 1, rs, A9, c9, F9, by omega, by omega, rfl, by go_num, hide ?_, HS⟩
          rw [← HRS.out]
          congr 1
          obtain ⟨hl, he⟩ := List.getElem?_eq_some_iff.1 (byte_at hlt)
          rw [List.drop_eq_getElem_cons hl, he, wordsL_skip hwf]
    · go_wp2_with fail
      go_ret
      refine ⟨rs, ⟨_, rfl, ⟨F9, HS.out.head, HS.out.headN, HS.out.headG⟩, HS.out.below⟩, ?_⟩
      rw [← HRS.out, List.drop_eq_nil_of_le (by simp; omega), wordsL_nil, List.append_nil]
theorem infoStrW : (Try.prog.info? 9).map (fun i => (i.zero, i.size, i.bytes)) = some (some (.string ⟨#[]⟩), 1, 16) := by kernel_rfl
theorem take_word {rs : List Run} {ws : List ByteArray} {k : Nat} {x : Run} (h : rs.map Run.word = ws) (hx : rs[k]? = some x) : ws.take (k + 1) = ws.take k ++ [x.word] := by
  obtain ⟨hl, rfl⟩ := List.getElem?_eq_some_iff.1 hx
  subst h
  rw [List.take_succ_eq_append_getElem (by simpa using hl)]
  simp
set_option maxHeartbeats 8000000 in
set_option maxRecDepth 100000 in
theorem words_c (s : ByteArray) (w : World) (hs : s.size ≤ 1048576) :
    Calls Try.prog 81 #[.string s] w (RetMade strD 9 w (wordsOf s)) := by
  have HS0 := hide (St.empty (d := strD) ((St.start w).alloc (k := w.heap.size) (arr := #[]) (e := 9) rfl))
  go_enter Try.func81, Try.ntmps81
  go_wp2_with (
    go_at_call 131
    refine Calls.mono (runsOf_c s _ hs) ?_
    rintro e w1 ⟨rs, ⟨v5, rfl, hm, hb⟩, hrs⟩
    obtain ⟨F5, hS⟩ := HS0.out.made hm hb
    obtain ⟨A5, c5, rfl⟩ := hm.shape
    have HS1 := hide hS.pull1
    have HRS := hide hrs
    have hln := congrArg List.length hrs
    rw [List.length_map] at hln
    clear hm hb hS hrs)
  have hwl := wordsOf_len s
  go_loopg [3, 10] rs.length (fun gg s3 s10 wr => ∃ (k : Nat) (A9 : Option Addr) (c9 : Nat) (F9 : List Nat), k ≤ rs.length ∧ rs.length - k ≤ gg ∧ s10 = .int .i64 k ∧ s3 = .slice A9 ((wordsOf s).take k).length c9 ∧ Hid (St w wr (own strD 9 (.slice A9 ((wordsOf s).take k).length c9) ((wordsOf s).take k) F9 :: [own runD 144 (.slice A5 rs.length c5) rs F5])))
  case atStart => exact ⟨0, _, _, _, Nat.zero_le _, by omega, rfl, rfl, HS1⟩
  case round =>
    obtain ⟨k, A9, c9, F9, hk, hg, rfl, rfl, HS⟩ := hrel
    by_cases hlt : k < rs.length
    · obtain ⟨x, hx⟩ : ∃ x, rs[k]? = some x := ⟨_, List.getElem?_eq_getElem hlt⟩
      obtain ⟨⟨q, rfl⟩, -, -⟩ := St.hasBlk (d := runD) rfl HS.out.drop hx
      obtain ⟨hcw, hfw, hzw⟩ := St.flatCell (d := runD) rfl HS.out.drop hx
      obtain ⟨d0, d1, d2⟩ : wr.cell? ⟨q, k * 3, none⟩ = some (.int .i64 x.from_) ∧ wr.cell? ⟨q, k * 3 + 1, none⟩ = some (.int .i64 x.to_) ∧ wr.cell? ⟨q, k * 3 + 2, none⟩ = some (.string x.word) := ⟨hcw 0 _ rfl, hcw 1 _ rfl, hcw 2 _ rfl⟩
      have HTW := hide (take_word HRS.out hx)
      have hlt2 : (k : Int) < (rs.length : Int) := by omega
      have htl : ((wordsOf s).take k).length = k := by rw [List.length_take]; omega
      clear hcw hfw hx
      go_wp2_with (
        at_builtin
        refine wpList_app1_st (d := strD) (w0 := w) rfl _ rfl _ _ _ rfl (.string ⟨#[]⟩) 16 Try.underlying25 infoStrW rfl (by omega) (by omega) (.slice A9 ((wordsOf s).take k).length c9) ((wordsOf s).take k) F9 rfl (wr.heap.size + 1) #[.string x.word] (St.pull1 (St.pull2 (show St w _ (blk (wr.heap.size + 1) #[.string x.word] 9 :: blk wr.heap.size #[.int .i64 x.from_, .int .i64 x.to_, .string x.word] 144 :: own strD 9 (.slice A9 ((wordsOf s).take k).length c9) ((wordsOf s).take k) F9 :: [own runD 144 (.slice (some ⟨q, 0, none⟩) rs.length c5) rs F5]) from by (repeat (first | (with_reducible exact HS.out) | (with_reducible apply St.alloc) | (with_reducible apply St.set0) | (with_reducible apply St.set1) | (with_reducible apply St.set2) | (with_reducible apply St.set3) | (with_reducible apply St.drew) | (with_reducible apply St.drewN))); all_goals (try (first | rfl | (simp; done)))))) 1 rfl x.word rfl (by omega) ?_
        intro g7 cap7 w7 F7 hS7
        have HS7 := hide hS7
        clear hS7)
      go_roundg (rs.length - (k + 1))
      case measure => omega
      case rel =>
        refine ⟨k + 1, some ⟨g7, 0, none⟩, cap7, F7, by omega, by omega, by go_num, ?_, hide ?_⟩
        · rw [HTW.out, List.length_append, htl]; rfl
        · rw [HTW.out, List.length_append]; exact HS7.out.drop1
    · have : k = rs.length := by omega
      have HK := hide this
      go_wp2_with fail
      go_ret
      have hS := HS.out
      rw [HK.out, hln, List.take_length] at hS ⊢
      exact ⟨_, rfl, ⟨F9, hS.head, hS.headN, hS.headG⟩, hS.below⟩
end Go.Proofs.Yticjphaagmnahaa
