/- An index is copied: the reference and the program. -/
import Derived.Test.YticjphaagmnahaaIxHeld
import Derived.Test.YticjphaagmnahaaIxPlain
import Derived.Test.YticjphaagmnahaaRGround
import Derived.Deep.RegionLaw
import Derived.Deep.RegionWith
import Derived.Deep.CutRange
import Derived.Deep.DrawnRows
namespace Go.Proofs.Yticjphaagmnahaa
open Go Go.RowKit Go.BigFrame
set_option linter.unusedVariables false
set_option linter.unusedSimpArgs false
attribute [local go_sem ↓] Go.wp_at_zero Go.wp_at_succ
set_option maxRecDepth 100000

/-- Few enough. -/
def fewIx (p : Index) : Prop := p.entries.length ≤ 1048576 ∧ ∀ b ∈ p.entries, b.numbers.length ≤ 1048576
set_option maxHeartbeats 8000000 in
set_option maxRecDepth 100000 in
theorem l08Copy_c (p : Index) (b o : Nat) (w : World) (hp : RowAt indexD w b o [p]) (hf : fewIx p) :
    Calls Try.prog 136 #[.pointer (some ⟨b, o, none⟩)] w (RetElem indexD w p) := by
  obtain ⟨v1, h1, hbz, hb0⟩ := index_at hp (Below.refl _ _) (j := 0) rfl
  simp only [Nat.add_zero] at hb0
  obtain ⟨A, c, rfl, hl, hm, hra⟩ := h1
  have HA := hide hra
  have HF := hide hf
  have hf1 := hf.1
  clear hra hp hf
  have hbz1 : b < w.heap.size + 1 := by omega
  have hbz2 : b < w.heap.size + 1 + 1 := by omega
  go_enter Try.func136, Try.ntmps136
  go_wp2_with fail
  go_loopg [4] p.entries.length (fun gg s4 wr => ∃ (k : Nat) (outs : List (Raw 2)) (A9 : Option Addr) (c9 : Nat) (F9 : List Nat) (Fs : List (List Nat)), k ≤ p.entries.length ∧ p.entries.length - k ≤ gg ∧ s4 = .int .i64 k ∧ Hid (St w wr (own (rawD 2) 106 (.slice A9 outs.length c9) outs F9 :: heldsP entryD (p.entries.take k) outs Fs :: blk (w.heap.size + 1 + 1) #[.slice A9 outs.length c9] 33 :: [blk w.heap.size #[.slice none 0 0] 33])))
  case atStart =>
    exact ⟨0, [], some ⟨w.heap.size + 1, 0, none⟩, 0, [w.heap.size + 1], [], Nat.zero_le _, by omega, rfl, hide (St.push1 (St.heldNone (St.empty (St.pull1 (show St w _ (blk (w.heap.size + 1 + 1) #[.slice (some ⟨w.heap.size + 1, 0, none⟩) 0 0] 33 :: blk (w.heap.size + 1) #[] 106 :: [blk w.heap.size #[.slice none 0 0] 33]) from by (repeat (first | (with_reducible exact St.start w) | (with_reducible apply St.alloc) | (with_reducible apply St.set0) | (with_reducible apply St.set1) | (with_reducible apply St.set2) | (with_reducible apply St.set3) | (with_reducible apply St.drew) | (with_reducible apply St.drewN))); all_goals (try (first | rfl | (simp; done))))))))⟩
  case round =>
    obtain ⟨k, outs, A9, c9, F9, Fs, hk, hg, rfl, HS⟩ := hrel
    have hol : outs.length ≤ k := by
      have h := St.entLen HS.out.drop
      rw [List.length_take] at h; omega
    have hb0 := cell_below HS.out.below hb0
    have hbr := Nat.lt_of_lt_of_le hbz HS.out.size
    have x0 := (St.at2 HS.out).c1
    have xf := (St.at2 HS.out).frozen
    have xz := (St.at2 HS.out).lt
    have y0 := (St.at3 HS.out).c1
    have yf := (St.at3 HS.out).frozen
    have yz := (St.at3 HS.out).lt
    by_cases hlt : k < p.entries.length
    · obtain ⟨m, hx⟩ : ∃ m, p.entries[k]? = some m := ⟨_, List.getElem?_eq_getElem hlt⟩
      rcases HA.out with hnil | ⟨q, o2, rfl, hra⟩
      · rw [hnil] at hlt; simp at hlt
      obtain ⟨v3, h3, hq, hc0, hc1⟩ := entry_at hra HS.out.below hx
      obtain ⟨A3, c3, rfl⟩ := h3.shape
      have H3 := hide h3
      have hhl := HF.out.2 m (List.mem_of_getElem? hx)
      have HX := hide hx
      have hlt2 : (k : Int) < (p.entries.length : Int) := by omega
      clear hx hra h3 HA
      go_wp2_with fail
      go_region_law (first
        | (refine step_app_st (d := rawD 2) (w0 := w) rfl rfl (.tmp 17) (.tmp 36) 31 rfl (.agg #[(.string ⟨#[]⟩), (.slice none 0 0)]) 40 Try.underlying31 infoRawE rfl (by omega) (by omega) (.slice A9 outs.length c9) outs F9 (by simp [Act.eval, Act.put]) w2.heap.size #[.string m.word, .slice A2 m.numbers.length c2] (show St w _ (_ :: _ :: heldsP entryD (p.entries.take k) outs Fs :: own intD 2 (.slice A2 m.numbers.length c2) m.numbers F2 :: blk (w.heap.size + 1 + 1) #[.slice A9 outs.length c9] 33 :: [blk w.heap.size #[.slice none 0 0] 33]) from by (repeat (first | (with_reducible exact HS2.out.pull2.pull2) | (with_reducible apply St.alloc) | (with_reducible apply St.set0) | (with_reducible apply St.set1) | (with_reducible apply St.set2) | (with_reducible apply St.set3) | (with_reducible apply St.drew) | (with_reducible apply St.drewN))); all_goals (try (first | rfl | (simp; done)))) 1 (by simp [Act.eval, Act.put]) (entRaw m A2 m.numbers.length c2) rfl (by omega) ?_
           intro g4 cap4 w4 F4 hS
           have HS4 := hide hS
           have x0 := (St.at3 hS).c1
           have xf := (St.at3 hS).frozen
           have xz := (St.at3 hS).lt
           clear hS)
        | (go_simp
           go_wp2_with (
             go_at_call 110
             refine (l00Own_c _ m.numbers _ (by first | exact H3.out | exact H3.out.below (Below.refl _ _).drew) hhl).mono ?_
             rintro e w2 ⟨v2, rfl, hM, hb⟩
             obtain ⟨A2, c2, rfl⟩ := hM.shape
             obtain ⟨F2, hS⟩ := (show St w _ (own (rawD 2) 106 (.slice A9 outs.length c9) outs F9 :: heldsP entryD (p.entries.take k) outs Fs :: blk (w.heap.size + 1 + 1) #[.slice A9 outs.length c9] 33 :: [blk w.heap.size #[.slice none 0 0] 33]) from by (repeat (first | (with_reducible exact HS.out) | (with_reducible apply St.alloc) | (with_reducible apply St.set0) | (with_reducible apply St.set1) | (with_reducible apply St.set2) | (with_reducible apply St.set3) | (with_reducible apply St.drew) | (with_reducible apply St.drewN))); all_goals (try (first | rfl | (simp; done)))).made hM hb
             have HS2 := hide hS
             have hc0 := cell_below hb hc0
             have hc1 := cell_below hb hc1
             have hb0 := cell_below hb hb0
             have hq2 : q < w2.heap.size := Nat.lt_of_lt_of_le hq hb.size
             have hbr2 : b < w2.heap.size := Nat.lt_of_lt_of_le hbr hb.size
             have x0 := (St.at3 hS).c1
             have xf := (St.at3 hS).frozen
             have xz := (St.at3 hS).lt
             clear hM hb hS)))
      all_goals
        go_wp2_with fail
        go_roundg (p.entries.length - (k + 1))
        case measure => omega
        case rel =>
          refine ⟨k + 1, outs ++ [entRaw m A2 m.numbers.length c2], some ⟨g4, 0, none⟩, cap4, F4, Fs ++ [F2], by omega, by omega, by go_num, hide ?_⟩
          rw [List.length_append, show p.entries.take (k + 1) = p.entries.take k ++ [m] from by obtain ⟨h1, rfl⟩ := List.getElem?_eq_some_iff.1 HX.out; exact List.take_succ_eq_append_getElem h1]
          exact St.pull1 (St.entMore (St.pull2 (St.entIn (St.pull2 (show St w _ (own (rawD 2) 106 (.slice (some ⟨g4, 0, none⟩) (outs.length + 1) cap4) (outs ++ [entRaw m A2 m.numbers.length c2]) F4 :: heldsP entryD (p.entries.take k) outs Fs :: own intD 2 (.slice A2 m.numbers.length c2) m.numbers F2 :: blk (w.heap.size + 1 + 1) #[.slice (some ⟨g4, 0, none⟩) (outs.length + 1) cap4] 33 :: [blk w.heap.size #[.slice none 0 0] 33]) from by (repeat (first | (with_reducible exact HS4.out) | (with_reducible apply St.alloc) | (with_reducible apply St.set0) | (with_reducible apply St.set1) | (with_reducible apply St.set2) | (with_reducible apply St.set3) | (with_reducible apply St.drew) | (with_reducible apply St.drewN))); all_goals (try (first | rfl | (simp; done))))))))
    · obtain rfl : k = p.entries.length := by omega
      rw [List.take_length] at HS
      clear HA hlt hk hg
      obtain ⟨F, hP⟩ := St.index (p := p) HS.out
      have HP := hide hP
      clear hP
      go_wp2_with fail
      refine bodyPost_ret (v := .agg #[.slice A9 outs.length c9]) (by simp [results, Try.results136, go_sem, x0, xf, xz, y0, yf, yz]) rfl ?_
      exact St.ret1 (cs := [.slice A9 outs.length c9]) (F := F) (show St w _ (ownD indexD p [.slice A9 outs.length c9] F :: blk (w.heap.size + 1 + 1) #[.slice A9 outs.length c9] 33 :: [blk w.heap.size #[.slice A9 outs.length c9] 33]) from by (repeat (first | (with_reducible exact HP.out) | (with_reducible apply St.alloc) | (with_reducible apply St.set0) | (with_reducible apply St.set1) | (with_reducible apply St.set2) | (with_reducible apply St.set3) | (with_reducible apply St.drew) | (with_reducible apply St.drewN))); all_goals (try (first | rfl | (simp; done)))) rfl
set_option maxHeartbeats 8000000 in
set_option maxRecDepth 100000 in
theorem cloneIndex_c (p : Index) (v1 : Value) (w : World) (h1 : SliceK entryD w v1 p.entries) (hf : fewIx p) :
    Calls Try.prog 94 #[.agg #[v1]] w (RetElem indexD w p) := by
  obtain ⟨A, c, rfl, hl, hm, hra⟩ := h1
  have HA := hide hra
  have HF := hide hf
  have hf1 := hf.1
  clear hra hf
  go_enter Try.func94, Try.ntmps94
  go_wp2_with fail
  go_loopg [10] p.entries.length (fun gg s4 wr => ∃ (k : Nat) (outs : List (Raw 2)) (A9 : Option Addr) (c9 : Nat) (F9 : List Nat) (Fs : List (List Nat)), k ≤ p.entries.length ∧ p.entries.length - k ≤ gg ∧ s4 = .int .i64 k ∧ Hid (St w wr (own (rawD 2) 106 (.slice A9 outs.length c9) outs F9 :: heldsP entryD (p.entries.take k) outs Fs :: blk (w.heap.size + 1 + 1) #[.slice A9 outs.length c9] 33 :: [blk (w.heap.size + 1) #[.slice none 0 0] 33, blk w.heap.size #[.slice A p.entries.length c] 33])))
  case atStart =>
    exact ⟨0, [], none, 0, [], [], Nat.zero_le _, by omega, rfl, hide (St.nil (St.heldNone (show St w _ (blk (w.heap.size + 1 + 1) #[.slice none 0 0] 33 :: [blk (w.heap.size + 1) #[.slice none 0 0] 33, blk w.heap.size #[.slice A p.entries.length c] 33]) from by (repeat (first | (with_reducible exact St.start w) | (with_reducible apply St.alloc) | (with_reducible apply St.set0) | (with_reducible apply St.set1) | (with_reducible apply St.set2) | (with_reducible apply St.set3) | (with_reducible apply St.drew) | (with_reducible apply St.drewN))); all_goals (try (first | rfl | (simp; done))))))⟩
  case round =>
    obtain ⟨k, outs, A9, c9, F9, Fs, hk, hg, rfl, HS⟩ := hrel
    have hol : outs.length ≤ k := by
      have h := St.entLen HS.out.drop
      rw [List.length_take] at h; omega
    have x0 := (St.at2 HS.out).c1
    have xf := (St.at2 HS.out).frozen
    have xz := (St.at2 HS.out).lt
    have y0 := (St.at3 HS.out).c1
    have yf := (St.at3 HS.out).frozen
    have yz := (St.at3 HS.out).lt
    by_cases hlt : k < p.entries.length
    · obtain ⟨m, hx⟩ : ∃ m, p.entries[k]? = some m := ⟨_, List.getElem?_eq_getElem hlt⟩
      rcases HA.out with hnil | ⟨q, o2, rfl, hra⟩
      · rw [hnil] at hlt; simp at hlt
      obtain ⟨v3, h3, hq, hc0, hc1⟩ := entry_at hra HS.out.below hx
      obtain ⟨A3, c3, rfl⟩ := h3.shape
      have H3 := hide h3
      have hhl := HF.out.2 m (List.mem_of_getElem? hx)
      have HX := hide hx
      have hlt2 : (k : Int) < (p.entries.length : Int) := by omega
      clear hx hra h3 HA
      have hne : ¬ w.heap.size + 1 + 1 = wr.heap.size := by omega
      have HBX := hide ((((Below.refl wr.heap.size wr).alloc (Nat.le_refl _) (.cells #[.string m.word, .slice A3 m.numbers.length c3] 106))).drew)
      go_wp2_with fail
      go_region_law (first
        | (refine step_app_st (d := rawD 2) (w0 := w) rfl rfl (.tmp 15) (.tmp 22) 31 rfl (.agg #[(.string ⟨#[]⟩), (.slice none 0 0)]) 40 Try.underlying31 infoRawE rfl (by omega) (by omega) (.slice A9 outs.length c9) outs F9 (by simp [Act.eval, Act.put]) w2.heap.size #[.string m.word, .slice A2 m.numbers.length c2] (show St w _ (_ :: _ :: heldsP entryD (p.entries.take k) outs Fs :: own intD 2 (.slice A2 m.numbers.length c2) m.numbers F2 :: blk wr.heap.size #[.string m.word, .slice A3 m.numbers.length c3] 106 :: blk (w.heap.size + 1 + 1) #[.slice A9 outs.length c9] 33 :: [blk (w.heap.size + 1) #[.slice none 0 0] 33, blk w.heap.size #[.slice (some ⟨q, o2, none⟩) p.entries.length c] 33]) from by (repeat (first | (with_reducible exact HS2.out.pull3.pull3) | (with_reducible apply St.alloc) | (with_reducible apply St.set0) | (with_reducible apply St.set1) | (with_reducible apply St.set2) | (with_reducible apply St.set3) | (with_reducible apply St.drew) | (with_reducible apply St.drewN))); all_goals (try (first | rfl | (simp; done)))) 1 (by simp [Act.eval, Act.put]) (entRaw m A2 m.numbers.length c2) rfl (by omega) ?_
           intro g4 cap4 w4 F4 hS
           have HS4 := hide hS
           have x0 := (St.at3 (St.drop hS)).c1
           have xf := (St.at3 (St.drop hS)).frozen
           have xz := (St.at3 (St.drop hS)).lt
           clear hS)
        | (go_simp
           go_wp2_with (
             go_at_call 56
             refine (clone_c _ m.numbers _ (H3.out.below HBX.out) hhl).mono ?_
             rintro e w2 ⟨v2, rfl, hM, hb⟩
             obtain ⟨A2, c2, rfl⟩ := hM.shape
             obtain ⟨F2, hS⟩ := (show St w _ (blk wr.heap.size #[.string m.word, .slice A3 m.numbers.length c3] 106 :: own (rawD 2) 106 (.slice A9 outs.length c9) outs F9 :: heldsP entryD (p.entries.take k) outs Fs :: blk (w.heap.size + 1 + 1) #[.slice A9 outs.length c9] 33 :: [blk (w.heap.size + 1) #[.slice none 0 0] 33, blk w.heap.size #[.slice (some ⟨q, o2, none⟩) p.entries.length c] 33]) from by (repeat (first | (with_reducible exact HS.out) | (with_reducible apply St.alloc) | (with_reducible apply St.set0) | (with_reducible apply St.set1) | (with_reducible apply St.set2) | (with_reducible apply St.set3) | (with_reducible apply St.drew) | (with_reducible apply St.drewN))); all_goals (try (first | rfl | (simp; done)))).made hM hb
             have HS2 := hide hS
             obtain ⟨q0, q1⟩ := hS.at1.c2
             have qf := hS.at1.frozen
             have qz := hS.at1.lt
             have x0 := (St.at3 hS.drop).c1
             have xf := (St.at3 hS.drop).frozen
             have xz := (St.at3 hS.drop).lt
             clear hM hb hS)))
      all_goals
        go_wp2_with fail
        go_roundg (p.entries.length - (k + 1))
        case measure => omega
        case rel =>
          refine ⟨k + 1, outs ++ [entRaw m A2 m.numbers.length c2], some ⟨g4, 0, none⟩, cap4, F4, Fs ++ [F2], by omega, by omega, by go_num, hide ?_⟩
          rw [List.length_append, show p.entries.take (k + 1) = p.entries.take k ++ [m] from by obtain ⟨h1, rfl⟩ := List.getElem?_eq_some_iff.1 HX.out; exact List.take_succ_eq_append_getElem h1]
          exact St.pull1 (St.entMore (St.pull2 (St.entIn (St.pull2 (show St w _ (own (rawD 2) 106 (.slice (some ⟨g4, 0, none⟩) (outs.length + 1) cap4) (outs ++ [entRaw m A2 m.numbers.length c2]) F4 :: heldsP entryD (p.entries.take k) outs Fs :: own intD 2 (.slice A2 m.numbers.length c2) m.numbers F2 :: blk (w.heap.size + 1 + 1) #[.slice (some ⟨g4, 0, none⟩) (outs.length + 1) cap4] 33 :: [blk (w.heap.size + 1) #[.slice none 0 0] 33, blk w.heap.size #[.slice (some ⟨q, o2, none⟩) p.entries.length c] 33]) from by (repeat (first | (with_reducible exact HS4.out.drop3) | (with_reducible apply St.alloc) | (with_reducible apply St.set0) | (with_reducible apply St.set1) | (with_reducible apply St.set2) | (with_reducible apply St.set3) | (with_reducible apply St.drew) | (with_reducible apply St.drewN))); all_goals (try (first | rfl | (simp; done))))))))
    · obtain rfl : k = p.entries.length := by omega
      rw [List.take_length] at HS
      clear HA hlt hk hg
      obtain ⟨F, hP⟩ := St.index (p := p) HS.out
      have HP := hide hP
      clear hP
      go_wp2_with fail
      refine bodyPost_ret (v := .agg #[.slice A9 outs.length c9]) (by simp [results, Try.results94, go_sem, x0, xf, xz, y0, yf, yz]) rfl ?_
      exact St.ret1 (cs := [.slice A9 outs.length c9]) (F := F) (show St w _ (ownD indexD p [.slice A9 outs.length c9] F :: blk (w.heap.size + 1 + 1) #[.slice A9 outs.length c9] 33 :: [blk (w.heap.size + 1) #[.slice A9 outs.length c9] 33, blk w.heap.size #[.slice A p.entries.length c] 33]) from by (repeat (first | (with_reducible exact HP.out) | (with_reducible apply St.alloc) | (with_reducible apply St.set0) | (with_reducible apply St.set1) | (with_reducible apply St.set2) | (with_reducible apply St.set3) | (with_reducible apply St.drew) | (with_reducible apply St.drewN))); all_goals (try (first | rfl | (simp; done)))) rfl
end Go.Proofs.Yticjphaagmnahaa
