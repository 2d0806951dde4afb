/- A number is put into the entry of a word: the reference. -/
import Derived.Test.YticjphaagmnahaaIxHeld
import Derived.Test.YticjphaagmnahaaIxPlain
import Derived.Test.YticjphaagmnahaaRGround
import Derived.Deep.RegionLaw
import Derived.Deep.RegionWith
import Derived.Deep.DrawnRows
namespace Go.Proofs.Yticjphaagmnahaa
open Go Go.RowKit Go.BigFrame
set_option linter.unusedVariables false
set_option linter.unusedSimpArgs false
set_option maxRecDepth 100000

/-- The first entry is taken out. -/
theorem St.entHead {w0 w : World} {L : List Piece} {xs ys : List Entry} {l rs : List (Raw 2)} {x : Entry} {r : Raw 2} {Fs : List (List Nat)} (h : St w0 w (heldsP entryD ys l Fs :: L)) (hy : ys = x :: xs) (hl : l = r :: rs) : ∃ G Fs', St w0 w (ownD entryD x r.val G :: heldsP entryD xs rs Fs' :: L) := by
  subst hy hl
  exact St.heldCut (d := entryD) (xs1 := []) (rs1 := []) h rfl
/-- One number in a block is a row of one. -/
theorem St.one {w0 w : World} {L : List Piece} {b : Nat} {n : Int} (h : St w0 w (blk b #[.int .i64 n] 2 :: L)) : St w0 w (own intD 2 (.slice (some ⟨b, 0, none⟩) 1 1) [n] [b] :: L) := by
  refine ⟨h.below, fun p hp => ?_, h.nodup, h.ge⟩
  rcases List.mem_cons.1 hp with rfl | hp
  · have hb : w.heap[b]? = some (.cells #[.int .i64 n] 2 (0, 0)) := h.head
    have h1 : 1 ≤ 9223372036854775807 := by omega
    exact (int_M_mk (Nat.le_refl ([n] : List Int).length) h1 hb rfl rfl)
  · exact h.drop.all p hp
set_option maxHeartbeats 16000000 in
set_option maxRecDepth 100000 in
theorem l08Put_c (es : List Entry) (t : ByteArray) (n : Int) (b : Nat) (F : List Nat) (w0 W : World) (L : List Piece) (hS : St w0 W (boxP indexD 33 b ⟨es⟩ F :: L)) (hl : es.length ≤ 1048574) (hf : ∀ e ∈ es, e.numbers.length ≤ 400000) :
    Calls Try.prog 137 #[.pointer (some ⟨b, 0, none⟩), .string t, .int .i64 n] W fun r W' => ∃ v F' u, r = .returned (.agg #[v]) ∧ St w0 W' (ownD indexD ⟨putW t n es⟩ [v] F' :: blk b #[u] 33 :: L) := by
  obtain ⟨A, c, rs, F1, Fs0, hrl, hO⟩ := St.indexOpen hS
  have hrl2 : rs.length = es.length := hrl
  replace hO : St w0 W (blk b #[.slice A rs.length c] 33 :: own (rawD 2) 106 (.slice A rs.length c) rs F1 :: heldsP entryD es rs Fs0 :: L) := by rw [hrl2]; exact hO
  have HO := hide hO
  have HF := hide hf
  have y0 := hO.at0.c1
  have yz := hO.at0.lt
  clear hS hf hrl hO
  go_enter Try.func137, Try.ntmps137
  go_wp2_with fail
  go_loopg [8, 9] es.length (fun gg s8 s9 wr => ∃ (k : Nat) (outs : List (Raw 2)) (A9 : Option Addr) (c9 : Nat) (F9 : List Nat) (Fs9 Fs : List (List Nat)), k ≤ es.length ∧ es.length - k ≤ gg ∧ s9 = .int .i64 k ∧ s8 = .bool (ipS t n (es.take k)).2 ∧ Hid (St w0 wr (own (rawD 2) 106 (.slice A9 outs.length c9) outs F9 :: heldsP entryD (ipS t n (es.take k)).1 outs Fs9 :: heldsP entryD (es.drop k) (rs.drop k) Fs :: blk (W.heap.size + 1 + 1) #[.slice A9 outs.length c9] 33 :: blk W.heap.size #[.slice none 0 0] 33 :: blk b #[.slice A rs.length c] 33 :: own (rawD 2) 106 (.slice A rs.length c) rs F1 :: L)))
  case atStart =>
    exact ⟨0, [], some ⟨W.heap.size + 1, 0, none⟩, 0, [W.heap.size + 1], [], Fs0, Nat.zero_le _, by omega, rfl, rfl, hide (St.push1 (St.heldNone (St.empty (St.pull2 (St.pull3 (show St w0 _ (blk (W.heap.size + 1 + 1) #[.slice (some ⟨W.heap.size + 1, 0, none⟩) 0 0] 33 :: blk (W.heap.size + 1) #[] 106 :: blk W.heap.size #[.slice none 0 0] 33 :: heldsP entryD es rs Fs0 :: blk b #[.slice A rs.length c] 33 :: own (rawD 2) 106 (.slice A rs.length c) rs F1 :: L) from by (repeat (first | (with_reducible exact HO.out.pull2) | (with_reducible apply St.alloc) | (with_reducible apply St.set0) | (with_reducible apply St.set1) | (with_reducible apply St.set2) | (with_reducible apply St.set3) | (with_reducible apply St.drew) | (with_reducible apply St.drewN))); all_goals (try (first | rfl | (simp; done)))))))))⟩
  case round =>
    obtain ⟨k, outs, A9, c9, F9, Fs9, Fs, hk, hg, rfl, rfl, HS⟩ := hrel
    have hol := ipS_len t n (es.take k)
    rw [List.length_take, Nat.min_eq_left hk] at hol
    have hou : outs.length ≤ k + 1 := by
      have h := St.entLen HS.out.drop
      split at hol <;> omega
    have y0 := HS.out.drop.drop.at3.c1
    have yz := HS.out.drop.drop.at3.lt
    have x0 := HS.out.at3.c1
    have xf := HS.out.at3.frozen
    have xz := HS.out.at3.lt
    have z0 := HS.out.drop.at3.c1
    have zf := HS.out.drop.at3.frozen
    have zz := HS.out.drop.at3.lt
    by_cases hlt : k < es.length
    · obtain ⟨m, hx⟩ : ∃ m, es[k]? = some m := ⟨_, List.getElem?_eq_getElem hlt⟩
      have hed : es.drop k = m :: es.drop (k + 1) := by
        obtain ⟨h, rfl⟩ := List.getElem?_eq_some_iff.1 hx
        exact (List.getElem_cons_drop (h := h)).symm
      obtain ⟨A3, c3, hr0, hK3⟩ := St.entAt HS.out.drop.drop (k := 0) (x := m) (by rw [hed]; rfl)
      have hr3 : rs[k]? = some (entRaw m A3 m.numbers.length c3) := by
        have h5 : (List.drop k (rs : List (Raw 2)))[0]? = some (entRaw m A3 m.numbers.length c3) := hr0
        rw [List.getElem?_drop] at h5; exact h5
      have hrd : rs.drop k = entRaw m A3 m.numbers.length c3 :: rs.drop (k + 1) := by
        obtain ⟨h, h2⟩ := List.getElem?_eq_some_iff.1 hr3
        rw [← h2]; exact (List.getElem_cons_drop (h := h)).symm
      obtain ⟨⟨q, rfl⟩, -, hcap2⟩ := St.hasBlk (d := rawD 2) rfl HS.out.drop.drop.drop.drop.drop.drop hr3
      obtain ⟨hcell2, hqf2, hqz2⟩ := St.flatCell (d := rawD 2) rfl HS.out.drop.drop.drop.drop.drop.drop hr3
      have d0 := hcell2 0 _ rfl
      have d1 := hcell2 1 _ rfl
      simp only [Nat.add_zero] at d0
      obtain ⟨G, Fs5, hC0⟩ := St.entHead HS.out.pull2 hed hrd
      have HC : Hid (St w0 wr (own intD 2 (.slice A3 m.numbers.length c3) m.numbers G :: heldsP entryD (es.drop (k + 1)) (rs.drop (k + 1)) Fs5 :: own (rawD 2) 106 (.slice A9 outs.length c9) outs F9 :: heldsP entryD (ipS t n (es.take k)).1 outs Fs9 :: blk (W.heap.size + 1 + 1) #[.slice A9 outs.length c9] 33 :: blk W.heap.size #[.slice none 0 0] 33 :: blk b #[.slice (some ⟨q, 0, none⟩) rs.length c] 33 :: own (rawD 2) 106 (.slice (some ⟨q, 0, none⟩) rs.length c) rs F1 :: L)) := hide (St.entOut hC0)
      have HST := hide (ipS_step (t := t) (n := n) hx)
      have hlt2 : (k : Int) < (rs.length : Int) := by have := (List.getElem?_eq_some_iff.1 hr3).1; omega
      have HK3 := hide hK3
      have hml := HF.out m (List.mem_of_getElem? hx)
      clear hr0 hrd hed hcell2 hC0 hx hK3 hr3
      have hc : (ipS t n (es.take k)).2 = true ∨ (ipS t n (es.take k)).2 = false := by cases (ipS t n (es.take k)).2 <;> simp
      rcases hc with hp | hp
      · rw [hp]
        by_cases hpm : (m.word.toList == t.toList) = true
        · have hmt : m.word = t := tx_eq (by simpa using hpm)
          have HE := hide (show ipS t n (es.take (k + 1)) = ((ipS t n (es.take k)).1 ++ [(Entry.mk m.word (putN n m.numbers))], true) from by rw [HST.out]; simp [ipStep, hp, entIs, hmt, txLt_irrefl])
          have hgt : Op.bytesLess m.word.toList t.toList = false := by rw [hmt]; exact txLt_irrefl t
          clear hp hmt
          go_wp2_with (first
                       | (go_at_call 84
                          refine (l00Put_c _ m.numbers n _ (HK3.out.below ((Below.refl wr.heap.size wr).alloc (Nat.le_refl _) _)) hml).mono ?_
                          rintro e w5 ⟨v5, rfl, hM, hb⟩
                          obtain ⟨A5, c5, rfl⟩ := hM.shape
                          obtain ⟨F5, hS⟩ := (show St w0 _ (blk wr.heap.size #[.string m.word, .slice A3 m.numbers.length c3] 106 :: own intD 2 (.slice A3 m.numbers.length c3) m.numbers G :: heldsP entryD (es.drop (k + 1)) (rs.drop (k + 1)) Fs5 :: own (rawD 2) 106 (.slice A9 outs.length c9) outs F9 :: heldsP entryD (ipS t n (es.take k)).1 outs Fs9 :: blk (W.heap.size + 1 + 1) #[.slice A9 outs.length c9] 33 :: blk W.heap.size #[.slice none 0 0] 33 :: blk b #[.slice (some ⟨q, 0, none⟩) rs.length c] 33 :: own (rawD 2) 106 (.slice (some ⟨q, 0, none⟩) rs.length c) rs F1 :: L) from by (repeat (first | (with_reducible exact HC.out) | (with_reducible apply St.alloc) | (with_reducible apply St.set0) | (with_reducible apply St.set1) | (with_reducible apply St.set2) | (with_reducible apply St.set3) | (with_reducible apply St.drew) | (with_reducible apply St.drewN))); all_goals (try (first | rfl | (simp; done)))).made hM hb
                          have HS5 := hide hS
                          clear x0 xf xz
                          obtain ⟨q0, q1⟩ := hS.at1.c2
                          have qf := hS.at1.frozen
                          have qz := hS.at1.lt
                          have x0 := hS.drop.drop.drop.at3.c1
                          have xf := hS.drop.drop.drop.at3.frozen
                          have xz := hS.drop.drop.drop.at3.lt
                          clear hM hb hS)
                       | (at_builtin
                          refine wpList_app1_st (d := rawD 2) (w0 := w0) rfl _ rfl _ _ _ rfl (.agg #[(.string ⟨#[]⟩), (.slice none 0 0)]) 40 Try.underlying31 infoRawE rfl (by omega) (by omega) (.slice A9 outs.length c9) outs F9 rfl w5.heap.size #[.string m.word, .slice A5 (putN n m.numbers).length c5] (show St w0 _ (_ :: own (rawD 2) 106 (.slice A9 outs.length c9) outs F9 :: own intD 2 (.slice A5 (putN n m.numbers).length c5) (putN n m.numbers) F5 :: blk wr.heap.size #[.string m.word, .slice A5 (putN n m.numbers).length c5] 106 :: own intD 2 (.slice A3 m.numbers.length c3) m.numbers G :: heldsP entryD (es.drop (k + 1)) (rs.drop (k + 1)) Fs5 :: heldsP entryD (ipS t n (es.take k)).1 outs Fs9 :: blk (W.heap.size + 1 + 1) #[.slice A9 outs.length c9] 33 :: blk W.heap.size #[.slice none 0 0] 33 :: blk b #[.slice (some ⟨q, 0, none⟩) rs.length c] 33 :: own (rawD 2) 106 (.slice (some ⟨q, 0, none⟩) rs.length c) rs F1 :: L) from by (repeat (first | (with_reducible exact HS5.out.pull4) | (with_reducible apply St.alloc) | (with_reducible apply St.set0) | (with_reducible apply St.set1) | (with_reducible apply St.set2) | (with_reducible apply St.set3) | (with_reducible apply St.drew) | (with_reducible apply St.drewN))); all_goals (try (first | rfl | (simp; done)))) 1 rfl (entRaw (Entry.mk m.word (putN n m.numbers)) A5 (putN n m.numbers).length c5) rfl (by omega) ?_
                          intro g4 cap4 w4 F4 hS
                          have HS4 := hide hS
                          clear x0 xf xz
                          have x0 := hS.drop.drop.drop.at3.c1
                          have xf := hS.drop.drop.drop.at3.frozen
                          have xz := hS.drop.drop.drop.at3.lt
                          clear hS))
          go_roundg (es.length - (k + 1))
          case measure => omega
          case rel =>
            refine ⟨k + 1, outs ++ [entRaw (Entry.mk m.word (putN n m.numbers)) A5 (putN n m.numbers).length c5], some ⟨g4, 0, none⟩, cap4, F4, Fs9 ++ [F5], Fs5, by omega, by omega, by go_num, by rw [HE.out], hide ?_⟩
            rw [List.length_append, HE.out]
            exact St.pull3 (St.pull1 (St.pull3 (St.entMore (St.pull4 (St.entIn (x := (Entry.mk m.word (putN n m.numbers))) (St.pull2 (show St w0 _ (blk (W.heap.size + 1 + 1) #[.slice (some ⟨g4, 0, none⟩) (outs.length + 1) cap4] 33 :: own (rawD 2) 106 (.slice (some ⟨g4, 0, none⟩) (outs.length + 1) cap4) (outs ++ [entRaw (Entry.mk m.word (putN n m.numbers)) A5 (putN n m.numbers).length c5]) F4 :: own intD 2 (.slice A5 (putN n m.numbers).length c5) (putN n m.numbers) F5 :: heldsP entryD (es.drop (k + 1)) (rs.drop (k + 1)) Fs5 :: heldsP entryD (ipS t n (es.take k)).1 outs Fs9 :: blk W.heap.size #[.slice none 0 0] 33 :: blk b #[.slice (some ⟨q, 0, none⟩) rs.length c] 33 :: own (rawD 2) 106 (.slice (some ⟨q, 0, none⟩) rs.length c) rs F1 :: L) from by (repeat (first | (with_reducible exact HS4.out.drop2.drop2.pull4) | (with_reducible apply St.alloc) | (with_reducible apply St.set0) | (with_reducible apply St.set1) | (with_reducible apply St.set2) | (with_reducible apply St.set3) | (with_reducible apply St.drew) | (with_reducible apply St.drewN))); all_goals (try (first | rfl | (simp; done))))))))))
        · have hpm : (m.word.toList == t.toList) = false := by simpa using hpm
          have HE := hide (show ipS t n (es.take (k + 1)) = ((ipS t n (es.take k)).1 ++ [m], true) from by rw [HST.out]; simp [ipStep, hp, entIs, hpm])
          clear hp
          go_wp2_with (at_builtin
                       refine wpList_app1_st (d := rawD 2) (w0 := w0) rfl _ rfl _ _ _ rfl (.agg #[(.string ⟨#[]⟩), (.slice none 0 0)]) 40 Try.underlying31 infoRawE rfl (by omega) (by omega) (.slice A9 outs.length c9) outs F9 rfl (wr.heap.size + 1) #[.string m.word, .slice A3 m.numbers.length c3] (show St w0 _ (_ :: own (rawD 2) 106 (.slice A9 outs.length c9) outs F9 :: blk wr.heap.size #[.string m.word, .slice A3 m.numbers.length c3] 106 :: own intD 2 (.slice A3 m.numbers.length c3) m.numbers G :: heldsP entryD (es.drop (k + 1)) (rs.drop (k + 1)) Fs5 :: heldsP entryD (ipS t n (es.take k)).1 outs Fs9 :: blk (W.heap.size + 1 + 1) #[.slice A9 outs.length c9] 33 :: blk W.heap.size #[.slice none 0 0] 33 :: blk b #[.slice (some ⟨q, 0, none⟩) rs.length c] 33 :: own (rawD 2) 106 (.slice (some ⟨q, 0, none⟩) rs.length c) rs F1 :: L) from by (repeat (first | (with_reducible exact (HC.out.alloc (k := wr.heap.size) (arr := #[.string m.word, .slice A3 m.numbers.length c3]) (e := 106) rfl).pull3) | (with_reducible apply St.alloc) | (with_reducible apply St.set0) | (with_reducible apply St.set1) | (with_reducible apply St.set2) | (with_reducible apply St.set3) | (with_reducible apply St.drew) | (with_reducible apply St.drewN))); all_goals (try (first | rfl | (simp; done)))) 1 rfl (entRaw m A3 m.numbers.length c3) rfl (by omega) ?_
                       intro g4 cap4 w4 F4 hS
                       have HS4 := hide hS
                       have x0 := hS.drop.drop.at3.c1
                       have xf := hS.drop.drop.at3.frozen
                       have xz := hS.drop.drop.at3.lt
                       clear hS)
          go_roundg (es.length - (k + 1))
          case measure => omega
          case rel =>
            refine ⟨k + 1, outs ++ [entRaw m A3 m.numbers.length c3], some ⟨g4, 0, none⟩, cap4, F4, Fs9 ++ [G], Fs5, by omega, by omega, by go_num, by rw [HE.out], hide ?_⟩
            rw [List.length_append, HE.out]
            exact St.pull3 (St.pull1 (St.pull3 (St.entMore (St.pull4 (St.entIn (St.pull2 (show St w0 _ (blk (W.heap.size + 1 + 1) #[.slice (some ⟨g4, 0, none⟩) (outs.length + 1) cap4] 33 :: own (rawD 2) 106 (.slice (some ⟨g4, 0, none⟩) (outs.length + 1) cap4) (outs ++ [entRaw m A3 m.numbers.length c3]) F4 :: own intD 2 (.slice A3 m.numbers.length c3) m.numbers G :: heldsP entryD (es.drop (k + 1)) (rs.drop (k + 1)) Fs5 :: heldsP entryD (ipS t n (es.take k)).1 outs Fs9 :: blk W.heap.size #[.slice none 0 0] 33 :: blk b #[.slice (some ⟨q, 0, none⟩) rs.length c] 33 :: own (rawD 2) 106 (.slice (some ⟨q, 0, none⟩) rs.length c) rs F1 :: L) from by (repeat (first | (with_reducible exact HS4.out.drop1.pull4) | (with_reducible apply St.alloc) | (with_reducible apply St.set0) | (with_reducible apply St.set1) | (with_reducible apply St.set2) | (with_reducible apply St.set3) | (with_reducible apply St.drew) | (with_reducible apply St.drewN))); all_goals (try (first | rfl | (simp; done))))))))))
      · rw [hp]
        by_cases hpm : (m.word.toList == t.toList) = true
        · have hmt : m.word = t := tx_eq (by simpa using hpm)
          have HE := hide (show ipS t n (es.take (k + 1)) = ((ipS t n (es.take k)).1 ++ [(Entry.mk m.word (putN n m.numbers))], true) from by rw [HST.out]; simp [ipStep, hp, entIs, hmt, txLt_irrefl])
          have hgt : Op.bytesLess m.word.toList t.toList = false := by rw [hmt]; exact txLt_irrefl t
          clear hp hmt
          go_wp2_with (first
                       | (go_at_call 84
                          refine (l00Put_c _ m.numbers n _ (HK3.out.below ((Below.refl wr.heap.size wr).alloc (Nat.le_refl _) _)) hml).mono ?_
                          rintro e w5 ⟨v5, rfl, hM, hb⟩
                          obtain ⟨A5, c5, rfl⟩ := hM.shape
                          obtain ⟨F5, hS⟩ := (show St w0 _ (blk wr.heap.size #[.string m.word, .slice A3 m.numbers.length c3] 106 :: own intD 2 (.slice A3 m.numbers.length c3) m.numbers G :: heldsP entryD (es.drop (k + 1)) (rs.drop (k + 1)) Fs5 :: own (rawD 2) 106 (.slice A9 outs.length c9) outs F9 :: heldsP entryD (ipS t n (es.take k)).1 outs Fs9 :: blk (W.heap.size + 1 + 1) #[.slice A9 outs.length c9] 33 :: blk W.heap.size #[.slice none 0 0] 33 :: blk b #[.slice (some ⟨q, 0, none⟩) rs.length c] 33 :: own (rawD 2) 106 (.slice (some ⟨q, 0, none⟩) rs.length c) rs F1 :: L) from by (repeat (first | (with_reducible exact HC.out) | (with_reducible apply St.alloc) | (with_reducible apply St.set0) | (with_reducible apply St.set1) | (with_reducible apply St.set2) | (with_reducible apply St.set3) | (with_reducible apply St.drew) | (with_reducible apply St.drewN))); all_goals (try (first | rfl | (simp; done)))).made hM hb
                          have HS5 := hide hS
                          clear x0 xf xz
                          obtain ⟨q0, q1⟩ := hS.at1.c2
                          have qf := hS.at1.frozen
                          have qz := hS.at1.lt
                          have x0 := hS.drop.drop.drop.at3.c1
                          have xf := hS.drop.drop.drop.at3.frozen
                          have xz := hS.drop.drop.drop.at3.lt
                          clear hM hb hS)
                       | (at_builtin
                          refine wpList_app1_st (d := rawD 2) (w0 := w0) rfl _ rfl _ _ _ rfl (.agg #[(.string ⟨#[]⟩), (.slice none 0 0)]) 40 Try.underlying31 infoRawE rfl (by omega) (by omega) (.slice A9 outs.length c9) outs F9 rfl w5.heap.size #[.string m.word, .slice A5 (putN n m.numbers).length c5] (show St w0 _ (_ :: own (rawD 2) 106 (.slice A9 outs.length c9) outs F9 :: own intD 2 (.slice A5 (putN n m.numbers).length c5) (putN n m.numbers) F5 :: blk wr.heap.size #[.string m.word, .slice A5 (putN n m.numbers).length c5] 106 :: own intD 2 (.slice A3 m.numbers.length c3) m.numbers G :: heldsP entryD (es.drop (k + 1)) (rs.drop (k + 1)) Fs5 :: heldsP entryD (ipS t n (es.take k)).1 outs Fs9 :: blk (W.heap.size + 1 + 1) #[.slice A9 outs.length c9] 33 :: blk W.heap.size #[.slice none 0 0] 33 :: blk b #[.slice (some ⟨q, 0, none⟩) rs.length c] 33 :: own (rawD 2) 106 (.slice (some ⟨q, 0, none⟩) rs.length c) rs F1 :: L) from by (repeat (first | (with_reducible exact HS5.out.pull4) | (with_reducible apply St.alloc) | (with_reducible apply St.set0) | (with_reducible apply St.set1) | (with_reducible apply St.set2) | (with_reducible apply St.set3) | (with_reducible apply St.drew) | (with_reducible apply St.drewN))); all_goals (try (first | rfl | (simp; done)))) 1 rfl (entRaw (Entry.mk m.word (putN n m.numbers)) A5 (putN n m.numbers).length c5) rfl (by omega) ?_
                          intro g4 cap4 w4 F4 hS
                          have HS4 := hide hS
                          clear x0 xf xz
                          have x0 := hS.drop.drop.drop.at3.c1
                          have xf := hS.drop.drop.drop.at3.frozen
                          have xz := hS.drop.drop.drop.at3.lt
                          clear hS))
          go_roundg (es.length - (k + 1))
          case measure => omega
          case rel =>
            refine ⟨k + 1, outs ++ [entRaw (Entry.mk m.word (putN n m.numbers)) A5 (putN n m.numbers).length c5], some ⟨g4, 0, none⟩, cap4, F4, Fs9 ++ [F5], Fs5, by omega, by omega, by go_num, by rw [HE.out], hide ?_⟩
            rw [List.length_append, HE.out]
            exact St.pull3 (St.pull1 (St.pull3 (St.entMore (St.pull4 (St.entIn (x := (Entry.mk m.word (putN n m.numbers))) (St.pull2 (show St w0 _ (blk (W.heap.size + 1 + 1) #[.slice (some ⟨g4, 0, none⟩) (outs.length + 1) cap4] 33 :: own (rawD 2) 106 (.slice (some ⟨g4, 0, none⟩) (outs.length + 1) cap4) (outs ++ [entRaw (Entry.mk m.word (putN n m.numbers)) A5 (putN n m.numbers).length c5]) F4 :: own intD 2 (.slice A5 (putN n m.numbers).length c5) (putN n m.numbers) F5 :: heldsP entryD (es.drop (k + 1)) (rs.drop (k + 1)) Fs5 :: heldsP entryD (ipS t n (es.take k)).1 outs Fs9 :: blk W.heap.size #[.slice none 0 0] 33 :: blk b #[.slice (some ⟨q, 0, none⟩) rs.length c] 33 :: own (rawD 2) 106 (.slice (some ⟨q, 0, none⟩) rs.length c) rs F1 :: L) from by (repeat (first | (with_reducible exact HS4.out.drop2.drop2.pull4) | (with_reducible apply St.alloc) | (with_reducible apply St.set0) | (with_reducible apply St.set1) | (with_reducible apply St.set2) | (with_reducible apply St.set3) | (with_reducible apply St.drew) | (with_reducible apply St.drewN))); all_goals (try (first | rfl | (simp; done))))))))))
        · have hpm : (m.word.toList == t.toList) = false := by simpa using hpm
          by_cases hgt : Op.bytesLess m.word.toList t.toList = true
          · have hng : txLt t m.word = false := txLt_asymm hgt
            have HE := hide (show ipS t n (es.take (k + 1)) = ((ipS t n (es.take k)).1 ++ [m], false) from by rw [HST.out]; simp [ipStep, hp, entIs, hpm, hng])
            clear hng hp
            go_wp2_with (at_builtin
                         refine wpList_app1_st (d := rawD 2) (w0 := w0) rfl _ rfl _ _ _ rfl (.agg #[(.string ⟨#[]⟩), (.slice none 0 0)]) 40 Try.underlying31 infoRawE rfl (by omega) (by omega) (.slice A9 outs.length c9) outs F9 rfl (wr.heap.size + 1) #[.string m.word, .slice A3 m.numbers.length c3] (show St w0 _ (_ :: own (rawD 2) 106 (.slice A9 outs.length c9) outs F9 :: blk wr.heap.size #[.string m.word, .slice A3 m.numbers.length c3] 106 :: own intD 2 (.slice A3 m.numbers.length c3) m.numbers G :: heldsP entryD (es.drop (k + 1)) (rs.drop (k + 1)) Fs5 :: heldsP entryD (ipS t n (es.take k)).1 outs Fs9 :: blk (W.heap.size + 1 + 1) #[.slice A9 outs.length c9] 33 :: blk W.heap.size #[.slice none 0 0] 33 :: blk b #[.slice (some ⟨q, 0, none⟩) rs.length c] 33 :: own (rawD 2) 106 (.slice (some ⟨q, 0, none⟩) rs.length c) rs F1 :: L) from by (repeat (first | (with_reducible exact (HC.out.alloc (k := wr.heap.size) (arr := #[.string m.word, .slice A3 m.numbers.length c3]) (e := 106) rfl).pull3) | (with_reducible apply St.alloc) | (with_reducible apply St.set0) | (with_reducible apply St.set1) | (with_reducible apply St.set2) | (with_reducible apply St.set3) | (with_reducible apply St.drew) | (with_reducible apply St.drewN))); all_goals (try (first | rfl | (simp; done)))) 1 rfl (entRaw m A3 m.numbers.length c3) rfl (by omega) ?_
                         intro g4 cap4 w4 F4 hS
                         have HS4 := hide hS
                         have x0 := hS.drop.drop.at3.c1
                         have xf := hS.drop.drop.at3.frozen
                         have xz := hS.drop.drop.at3.lt
                         clear hS)
            go_roundg (es.length - (k + 1))
            case measure => omega
            case rel =>
              refine ⟨k + 1, outs ++ [entRaw m A3 m.numbers.length c3], some ⟨g4, 0, none⟩, cap4, F4, Fs9 ++ [G], Fs5, by omega, by omega, by go_num, by rw [HE.out], hide ?_⟩
              rw [List.length_append, HE.out]
              exact St.pull3 (St.pull1 (St.pull3 (St.entMore (St.pull4 (St.entIn (St.pull2 (show St w0 _ (blk (W.heap.size + 1 + 1) #[.slice (some ⟨g4, 0, none⟩) (outs.length + 1) cap4] 33 :: own (rawD 2) 106 (.slice (some ⟨g4, 0, none⟩) (outs.length + 1) cap4) (outs ++ [entRaw m A3 m.numbers.length c3]) F4 :: own intD 2 (.slice A3 m.numbers.length c3) m.numbers G :: heldsP entryD (es.drop (k + 1)) (rs.drop (k + 1)) Fs5 :: heldsP entryD (ipS t n (es.take k)).1 outs Fs9 :: blk W.heap.size #[.slice none 0 0] 33 :: blk b #[.slice (some ⟨q, 0, none⟩) rs.length c] 33 :: own (rawD 2) 106 (.slice (some ⟨q, 0, none⟩) rs.length c) rs F1 :: L) from by (repeat (first | (with_reducible exact HS4.out.drop1.pull4) | (with_reducible apply St.alloc) | (with_reducible apply St.set0) | (with_reducible apply St.set1) | (with_reducible apply St.set2) | (with_reducible apply St.set3) | (with_reducible apply St.drew) | (with_reducible apply St.drewN))); all_goals (try (first | rfl | (simp; done))))))))))
          · have hgt : Op.bytesLess m.word.toList t.toList = false := by simpa using hgt
            have hng : txLt t m.word = true := by
              cases h : txLt t m.word with
              | true => rfl
              | false => exact absurd (txLt_total (show txLt m.word t = false from hgt) h) (fun e => by rw [e] at hpm; simp at hpm)
            have HE := hide (show ipS t n (es.take (k + 1)) = ((ipS t n (es.take k)).1 ++ [⟨t, [n]⟩] ++ [m], true) from by rw [HST.out]; simp [ipStep, hp, entIs, hpm, hng])
            have hne : ¬ W.heap.size + 1 + 1 = wr.heap.size := by omega
            have hne2 : ¬ wr.heap.size = W.heap.size + 1 + 1 := by omega
            clear hng hp
            go_wp2_with (first
                         | (at_builtin
                            refine wpList_app1_st (d := rawD 2) (w0 := w0) rfl _ rfl _ _ _ rfl (.agg #[(.string ⟨#[]⟩), (.slice none 0 0)]) 40 Try.underlying31 infoRawE rfl (by omega) (by omega) (.slice (some ⟨g4, 0, none⟩) (outs.length + 1) cap4) (outs ++ [entRaw ⟨t, [n]⟩ (some ⟨wr.heap.size + 1, 0, none⟩) 1 1]) F4 rfl w4.heap.size #[.string m.word, .slice A3 m.numbers.length c3] (show St w0 _ (_ :: own (rawD 2) 106 (.slice (some ⟨g4, 0, none⟩) (outs.length + 1) cap4) (outs ++ [entRaw ⟨t, [n]⟩ (some ⟨wr.heap.size + 1, 0, none⟩) 1 1]) F4 :: blk (W.heap.size + 1 + 1) #[.slice (some ⟨g4, 0, none⟩) (outs.length + 1) cap4] 33 :: blk (wr.heap.size + 1) #[.int .i64 n] 2 :: blk wr.heap.size #[.string m.word, .slice A3 m.numbers.length c3] 106 :: heldsP entryD (ipS t n (es.take k)).1 outs Fs9 :: own intD 2 (.slice A3 m.numbers.length c3) m.numbers G :: heldsP entryD (es.drop (k + 1)) (rs.drop (k + 1)) Fs5 :: blk W.heap.size #[.slice none 0 0] 33 :: blk b #[.slice (some ⟨q, 0, none⟩) rs.length c] 33 :: own (rawD 2) 106 (.slice (some ⟨q, 0, none⟩) rs.length c) rs F1 :: L) from by (repeat (first | (with_reducible exact HS4.out.pull4.pull1) | (with_reducible apply St.alloc) | (with_reducible apply St.set0) | (with_reducible apply St.set1) | (with_reducible apply St.set2) | (with_reducible apply St.set3) | (with_reducible apply St.drew) | (with_reducible apply St.drewN))); all_goals (try (first | rfl | (simp; done)))) 1 rfl (entRaw m A3 m.numbers.length c3) rfl (by rw [List.length_append]; simp only [List.length_singleton]; omega) ?_
                            intro g6 cap6 w6 F6 hS
                            rw [List.length_append, List.length_singleton] at hS ⊢
                            have HS6 := hide hS
                            clear x0 xf xz
                            have x0 := hS.at1.c1
                            have xf := hS.at1.frozen
                            have xz := hS.at1.lt
                            clear hS)
                         | (at_builtin
                            refine wpList_app1_st (d := rawD 2) (w0 := w0) rfl _ rfl _ _ _ rfl (.agg #[(.string ⟨#[]⟩), (.slice none 0 0)]) 40 Try.underlying31 infoRawE rfl (by omega) (by omega) (.slice A9 outs.length c9) outs F9 rfl (wr.heap.size + 1 + 1) #[.string t, .slice (some ⟨wr.heap.size + 1, 0, none⟩) 1 1] (show St w0 _ (_ :: own (rawD 2) 106 (.slice A9 outs.length c9) outs F9 :: blk (wr.heap.size + 1) #[.int .i64 n] 2 :: blk wr.heap.size #[.string m.word, .slice A3 m.numbers.length c3] 106 :: heldsP entryD (ipS t n (es.take k)).1 outs Fs9 :: blk (W.heap.size + 1 + 1) #[.slice A9 outs.length c9] 33 :: own intD 2 (.slice A3 m.numbers.length c3) m.numbers G :: heldsP entryD (es.drop (k + 1)) (rs.drop (k + 1)) Fs5 :: blk W.heap.size #[.slice none 0 0] 33 :: blk b #[.slice (some ⟨q, 0, none⟩) rs.length c] 33 :: own (rawD 2) 106 (.slice (some ⟨q, 0, none⟩) rs.length c) rs F1 :: L) from by (repeat (first | (with_reducible exact ((HC.out.pull4.pull4.pull4.alloc (k := wr.heap.size) (arr := #[.string m.word, .slice A3 m.numbers.length c3]) (e := 106) rfl).alloc (k := wr.heap.size + 1) (arr := #[.int .i64 n]) (e := 2) (by simp)).pull2) | (with_reducible apply St.alloc) | (with_reducible apply St.set0) | (with_reducible apply St.set1) | (with_reducible apply St.set2) | (with_reducible apply St.set3) | (with_reducible apply St.drew) | (with_reducible apply St.drewN))); all_goals (try (first | rfl | (simp; done)))) 1 rfl (entRaw ⟨t, [n]⟩ (some ⟨wr.heap.size + 1, 0, none⟩) 1 1) rfl (by omega) ?_
                            intro g4 cap4 w4 F4 hS
                            have HS4 := hide hS
                            clear x0 xf xz
                            have x0 := hS.drop.at3.c1
                            have xf := hS.drop.at3.frozen
                            have xz := hS.drop.at3.lt
                            obtain ⟨q0, q1⟩ := hS.at2.c2
                            have qf := hS.at2.frozen
                            have qz := hS.at2.lt
                            clear hS))
            go_roundg (es.length - (k + 1))
            case measure => omega
            case rel =>
              refine ⟨k + 1, outs ++ [entRaw ⟨t, [n]⟩ (some ⟨wr.heap.size + 1, 0, none⟩) 1 1] ++ [entRaw m A3 m.numbers.length c3], some ⟨g6, 0, none⟩, cap6, F6, Fs9 ++ [[wr.heap.size + 1]] ++ [G], Fs5, by omega, by omega, by go_num, by rw [HE.out], hide ?_⟩
              rw [List.length_append, List.length_append, HE.out]
              exact St.pull2 (St.pull1 (St.pull3 (St.entMore (St.pull1 (St.entIn (St.pull3 (St.entMore (St.pull3 (St.entIn (x := ⟨t, [n]⟩) (St.one (St.pull2 (St.drop3 (show St w0 _ (own (rawD 2) 106 (.slice (some ⟨g6, 0, none⟩) (outs.length + 1 + 1) cap6) (outs ++ [entRaw ⟨t, [n]⟩ (some ⟨wr.heap.size + 1, 0, none⟩) 1 1] ++ [entRaw m A3 m.numbers.length c3]) F6 :: blk (W.heap.size + 1 + 1) #[.slice (some ⟨g6, 0, none⟩) (outs.length + 1 + 1) cap6] 33 :: blk (wr.heap.size + 1) #[.int .i64 n] 2 :: blk wr.heap.size #[.string m.word, .slice A3 m.numbers.length c3] 106 :: heldsP entryD (ipS t n (es.take k)).1 outs Fs9 :: own intD 2 (.slice A3 m.numbers.length c3) m.numbers G :: heldsP entryD (es.drop (k + 1)) (rs.drop (k + 1)) Fs5 :: blk W.heap.size #[.slice none 0 0] 33 :: blk b #[.slice (some ⟨q, 0, none⟩) rs.length c] 33 :: own (rawD 2) 106 (.slice (some ⟨q, 0, none⟩) rs.length c) rs F1 :: L) from by (repeat (first | (with_reducible exact HS6.out) | (with_reducible apply St.alloc) | (with_reducible apply St.set0) | (with_reducible apply St.set1) | (with_reducible apply St.set2) | (with_reducible apply St.set3) | (with_reducible apply St.drew) | (with_reducible apply St.drewN))); all_goals (try (first | rfl | (simp; done))))))))))))))))
    · obtain rfl : k = es.length := by omega
      rw [List.take_length] at *
      have hc : (ipS t n es).2 = true ∨ (ipS t n es).2 = false := by cases (ipS t n es).2 <;> simp
      rcases hc with hp | hp
      · rw [hp]
        have hpw : putW t n es = (ipS t n es).1 := by unfold putW; rw [if_pos hp]
        obtain ⟨F, hP⟩ := St.index (p := ⟨putW t n es⟩) (show St w0 wr (own (rawD 2) 106 (.slice A9 outs.length c9) outs F9 :: heldsP entryD (putW t n es) outs Fs9 :: _) from by rw [hpw]; exact HS.out)
        have HP := hide hP
        clear hp hpw hP hlt
        go_wp2_with fail
        refine bodyPost_ret (v := .agg #[.slice A9 outs.length c9]) (by simp [results, Try.results137, go_sem, x0, xf, xz, z0, zf, zz]) rfl ?_
        exact ⟨_, F, _, rfl, St.drop2 (St.drop1 (St.drop1 (St.drop1 (show St w0 _ (ownD indexD ⟨putW t n es⟩ [.slice A9 outs.length c9] F :: heldsP entryD _ _ _ :: blk (W.heap.size + 1 + 1) _ 33 :: blk W.heap.size #[.slice A9 outs.length c9] 33 :: blk b #[.slice A rs.length c] 33 :: own (rawD 2) 106 (.slice A rs.length c) rs F1 :: L) from by (repeat (first | (with_reducible exact HP.out) | (with_reducible apply St.alloc) | (with_reducible apply St.set0) | (with_reducible apply St.set1) | (with_reducible apply St.set2) | (with_reducible apply St.set3) | (with_reducible apply St.drew) | (with_reducible apply St.drewN))); all_goals (try (first | rfl | (simp; done)))))))⟩
      · rw [hp]
        have hpw : putW t n es = (ipS t n es).1 ++ [⟨t, [n]⟩] := by unfold putW; rw [if_neg (by rw [hp]; simp)]
        have HPW := hide hpw
        clear hp hpw hlt
        go_wp2_with (
          at_builtin
          refine wpList_app1_st (d := rawD 2) (w0 := w0) rfl _ rfl _ _ _ rfl (.agg #[(.string ⟨#[]⟩), (.slice none 0 0)]) 40 Try.underlying31 infoRawE rfl (by omega) (by omega) (.slice A9 outs.length c9) outs F9 rfl (wr.heap.size + 1) #[.string t, .slice (some ⟨wr.heap.size, 0, none⟩) 1 1] (show St w0 _ (_ :: own (rawD 2) 106 (.slice A9 outs.length c9) outs F9 :: blk wr.heap.size #[.int .i64 n] 2 :: heldsP entryD (ipS t n es).1 outs Fs9 :: _) from by (repeat (first | (with_reducible exact (HS.out.alloc (k := wr.heap.size) (arr := #[.int .i64 n]) (e := 2) rfl).pull1) | (with_reducible apply St.alloc) | (with_reducible apply St.set0) | (with_reducible apply St.set1) | (with_reducible apply St.set2) | (with_reducible apply St.set3) | (with_reducible apply St.drew) | (with_reducible apply St.drewN))); all_goals (try (first | rfl | (simp; done)))) 1 rfl (entRaw ⟨t, [n]⟩ (some ⟨wr.heap.size, 0, none⟩) 1 1) rfl (by omega) ?_
          intro g4 cap4 w4 F4 hS
          have HS4 := hide hS
          clear x0 xf xz z0 zf zz
          have x0 := hS.drop.at3.c1
          have xf := hS.drop.at3.frozen
          have xz := hS.drop.at3.lt
          have z0 := hS.drop.drop.at3.c1
          have zf := hS.drop.drop.at3.frozen
          have zz := hS.drop.drop.at3.lt
          clear hS)
        have key : ∀ W', St w0 W' (blk W.heap.size #[.slice (some ⟨g4, 0, none⟩) (outs.length + 1) cap4] 33 :: blk (W.heap.size + 1 + 1) #[.slice (some ⟨g4, 0, none⟩) (outs.length + 1) cap4] 33 :: own (rawD 2) 106 (.slice (some ⟨g4, 0, none⟩) (outs.length + 1) cap4) (outs ++ [entRaw ⟨t, [n]⟩ (some ⟨wr.heap.size, 0, none⟩) 1 1]) F4 :: blk wr.heap.size #[.int .i64 n] 2 :: heldsP entryD (ipS t n es).1 outs Fs9 :: blk b #[.slice A rs.length c] 33 :: own (rawD 2) 106 (.slice A rs.length c) rs F1 :: L) →
            ∃ F, St w0 W' (ownD indexD ⟨putW t n es⟩ [.slice (some ⟨g4, 0, none⟩) (outs.length + 1) cap4] F :: blk b #[.slice A rs.length c] 33 :: L) := by
          intro W' h
          have h2 := St.pull1 (St.entMore (St.pull2 (St.entIn (x := ⟨t, [n]⟩) (St.one (St.pull1 h.drop.drop)))))
          rw [← HPW.out] at h2
          obtain ⟨F, h3⟩ := St.index (p := ⟨putW t n es⟩) h2
          exact ⟨F, h3.drop2⟩
        refine bodyPost_ret (v := .agg #[.slice (some ⟨g4, 0, none⟩) (outs.length + 1) cap4]) (by simp [results, Try.results137, go_sem, x0, xf, xz, z0, zf, zz]) rfl ?_
        have key2 : ∀ W', St w0 W' (blk W.heap.size #[.slice (some ⟨g4, 0, none⟩) (outs.length + 1) cap4] 33 :: _) → ∃ v F' u, Ending.returned (.agg #[.slice (some ⟨g4, 0, none⟩) (outs.length + 1) cap4]) = .returned (.agg #[v]) ∧ St w0 W' (ownD indexD ⟨putW t n es⟩ [v] F' :: blk b #[u] 33 :: L) := fun W' h => (key W' h).elim fun F h5 => ⟨_, F, _, rfl, h5⟩
        exact key2 _ (by (repeat (first | (with_reducible exact HS4.out.drop3.pull3.pull4) | (with_reducible apply St.alloc) | (with_reducible apply St.set0) | (with_reducible apply St.set1) | (with_reducible apply St.set2) | (with_reducible apply St.set3) | (with_reducible apply St.drew) | (with_reducible apply St.drewN))); all_goals (try (first | rfl | (simp; done))))
end Go.Proofs.Yticjphaagmnahaa
