/- IndexOf: the program and the reference. -/
import Derived.Test.YticjphaagmnahaaIxAddS
import Derived.Test.YticjphaagmnahaaIxAdd
import Derived.Test.YticjphaagmnahaaSMsg
import Derived.Test.YticjphaagmnahaaFindPhrase
import Derived.Test.YticjphaagmnahaaVMsg
namespace Go.Proofs.Yticjphaagmnahaa
open Go Go.RowKit Go.BigFrame
set_option linter.unusedVariables false
set_option linter.unusedSimpArgs false
set_option maxRecDepth 100000

/-- The entries of some messages. -/
def ixEs (ms : List Message) : List Entry := ms.foldl addM []
theorem ixEs_step {ms : List Message} {k : Nat} {m : Message} (h : ms[k]? = some m) : ixEs (ms.take (k + 1)) = addM (ixEs (ms.take k)) m := by
  obtain ⟨hk, rfl⟩ := List.getElem?_eq_some_iff.1 h
  rw [List.take_succ_eq_append_getElem hk]; unfold ixEs
  rw [List.foldl_append]; rfl
theorem addM_fit {a b : Nat} {es : List Entry} {m : Message} (h : ixFit a b es) (ht : m.text.size ≤ 80) : ixFit (a + 80) (b + 80) (addM es m) := by
  have h1 := putWs_fit (n := m.number) (ws := wordsOf m.text) h
  have h2 := wordsOf_len m.text
  exact h1.more (by omega) (by omega)
theorem ixEs_fit {ms : List Message} (ht : ∀ m ∈ ms, m.text.size ≤ 80) : ∀ k, k ≤ ms.length → ixFit (80 * k) (80 * k) (ixEs (ms.take k))
  | 0, _ => by rw [List.take_zero]; exact ixFit_nil _ _
  | k + 1, hk => by
    have h := ixEs_fit ht k (by omega)
    have hx : ms[k]? = some ms[k] := List.getElem?_eq_getElem (by omega)
    rw [ixEs_step hx, show 80 * (k + 1) = 80 * k + 80 by omega]
    exact addM_fit h (ht _ (List.mem_of_getElem? hx))
def noIx : Index := ⟨[]⟩
theorem noIx_M (w : World) : indexD.M w noIx [.slice none 0 0] [] := index_M_mk (x := noIx) (F0 := []) (.inl ⟨rfl, rfl, rfl⟩)
theorem St.noIx {w0 w : World} {L : List Piece} (h : St w0 w L) : St w0 w (ownD indexD Go.Proofs.Yticjphaagmnahaa.noIx [.slice none 0 0] [] :: L) :=
  h.new (Below.refl _ _) (noIx_M w) (by simp [ownD]) (by simp [ownD])
def ioOk (l : Log) : Bool := validLogB l
def ioV (l : Log) : Index := if ioOk l then ⟨ixEs l.messages⟩ else noIx
set_option maxHeartbeats 16000000 in
set_option maxRecDepth 100000 in
theorem specIndexOf_c (l : Log) (v1 : Value) (w : World) (h1 : SliceK messageD w v1 l.messages) (ht : okTexts l.messages) :
    Calls Try.prog 40 #[.agg #[.int .i64 l.next, v1]] w (RetElem2 indexD w (ioV l) (ioOk l)) := by
  obtain ⟨A1, c1, rfl⟩ := h1.shape
  have H1 := hide h1
  have HT := hide ht
  clear h1 ht
  have HS0 := hide (show St w ((w.alloc (.cells #[.int .i64 l.next, .slice A1 l.messages.length c1] 58)).alloc (.cells #[.slice none 0 0] 33)) [blk (w.heap.size + 1) #[.slice none 0 0] 33, blk w.heap.size #[.int .i64 l.next, .slice A1 l.messages.length c1] 58] by (repeat (first | (with_reducible exact St.start w) | (with_reducible apply St.alloc) | (with_reducible apply St.set0) | (with_reducible apply St.set1) | (with_reducible apply St.set2) | (with_reducible apply St.set3) | (with_reducible apply St.drew) | (with_reducible apply St.drewN))); all_goals (try (first | rfl | (simp; done))))
  (try clear x0 x1 xz y0 yf yz)
  obtain ⟨x0, x1⟩ := HS0.out.at1.c2
  have xz := HS0.out.at1.lt
  have y0 := HS0.out.at0.c1
  have yf := HS0.out.at0.frozen
  have yz := HS0.out.at0.lt
  by_cases hv : validLogB l = true
  · have HV := hide hv
    have HOK := hide (show ioOk l = true from hv)
    have HP := hide (show ioV l = ⟨ixEs l.messages⟩ by unfold ioV; rw [HOK.out]; rfl)
    have h40 := validLog_40 hv
    have HMO := hide (msgs_ok hv)
    have HFIT := hide (fun k hk => ixEs_fit (ms := l.messages) (fun m hm => (valid_small (HMO.out m hm)).1) k hk)
    clear hv
    go_enter Try.func40, Try.ntmps40
    go_wp2_with (
      (go_at_call 73
       refine (l03Is_c l _ _ _ (Blk.rowAt (d := logD) (x := l) HS0.out.at1 (log_K_mk (H1.out.below HS0.out.below)) rfl) HT.out).mono ?_
       rintro e w1 ⟨rfl, hb⟩
       rw [HV.out]
       have HS1 := hide (HS0.out.by hb)
       (try clear x0 x1 xz y0 yf yz)
       obtain ⟨x0, x1⟩ := HS1.out.at1.c2
       have xz := HS1.out.at1.lt
       have y0 := HS1.out.at0.c1
       have yf := HS1.out.at0.frozen
       have yz := HS1.out.at0.lt
       clear hb))
    go_loopg [5] l.messages.length (fun gg s5 wr => ∃ (k : Nat) (Fb : List Nat), k ≤ l.messages.length ∧ l.messages.length - k ≤ gg ∧ s5 = .int .i64 k ∧ Hid (St w wr (boxP indexD 33 (w1.heap.size + 1) ⟨ixEs (l.messages.take k)⟩ Fb :: [blk (w.heap.size + 1) #[.slice none 0 0] 33, blk w.heap.size #[.int .i64 l.next, .slice A1 l.messages.length c1] 58])))
    case atStart =>
      refine ⟨0, (w1.heap.size + 1) :: [w1.heap.size], Nat.zero_le _, by omega, rfl, hide ?_⟩
      rw [List.take_zero]
      have key : ∀ W', St w W' (blk (w1.heap.size + 1) #[.slice (some ⟨w1.heap.size, 0, none⟩) 0 0] 33 :: blk w1.heap.size #[] 106 :: [blk (w.heap.size + 1) #[.slice none 0 0] 33, blk w.heap.size #[.int .i64 l.next, .slice A1 l.messages.length c1] 58]) → St w W' (boxP indexD 33 (w1.heap.size + 1) ⟨ixEs []⟩ ((w1.heap.size + 1) :: [w1.heap.size]) :: [blk (w.heap.size + 1) #[.slice none 0 0] 33, blk w.heap.size #[.int .i64 l.next, .slice A1 l.messages.length c1] 58]) := by
        intro W' h
        have h2 := St.empty (d := entryD) h.pull1
        have h3 : St w W' (ownD indexD ⟨ixEs []⟩ [.slice (some ⟨w1.heap.size, 0, none⟩) 0 0] [w1.heap.size] :: blk (w1.heap.size + 1) #[.slice (some ⟨w1.heap.size, 0, none⟩) 0 0] 33 :: [blk (w.heap.size + 1) #[.slice none 0 0] 33, blk w.heap.size #[.int .i64 l.next, .slice A1 l.messages.length c1] 58]) := by
          refine ⟨h2.below, fun p hp => ?_, h2.nodup, h2.ge⟩
          rcases List.mem_cons.1 hp with rfl | hp
          · exact index_M_mk h2.head
          · exact h2.drop.all p hp
        exact St.boxUp h3 rfl
      exact key _ (by (repeat (first | (with_reducible exact HS1.out) | (with_reducible apply St.alloc) | (with_reducible apply St.set0) | (with_reducible apply St.set1) | (with_reducible apply St.set2) | (with_reducible apply St.set3) | (with_reducible apply St.drew) | (with_reducible apply St.drewN))); all_goals (try (first | rfl | (simp; done))))
    case round =>
      obtain ⟨k, Fb, hk, hg, rfl, HS⟩ := hrel
      (try clear x0 x1 xz)
      obtain ⟨x0, x1⟩ := HS.out.at2.c2
      have xz := HS.out.at2.lt
      by_cases hlt : k < l.messages.length
      · obtain ⟨m, hx⟩ : ∃ m, l.messages[k]? = some m := ⟨_, List.getElem?_eq_getElem hlt⟩
        obtain ⟨A1', c1', heq, hlc, hmx, hra⟩ := H1.out
        simp only [Value.slice.injEq] at heq
        obtain ⟨rfl, -, rfl⟩ := heq
        rcases hra with hnil | ⟨q, o2, rfl, hra⟩
        · rw [hnil] at hlt; simp at hlt
        have HX := hide (ixEs_step hx)
        have hts := (valid_small (HMO.out m (List.mem_of_getElem? hx))).1
        have hlt2 : (k : Int) < (l.messages.length : Int) := by omega
        have HROW := hide (RowAt.ptr (hra.below HS.out.below) hx)
        have HFK := hide (HFIT.out k hk)
        obtain ⟨es, hes⟩ : ∃ es, es = ixEs (l.messages.take k) := ⟨_, rfl⟩
        rw [← hes] at HS HX HFK
        clear hra hx hes
        go_wp2_with (
          go_at_call 91
          refine (l08Add_c ⟨es⟩ m _ _ _ (80 * k) (80 * k) _ HS.out.boxRow HROW.out HFK.out hts (by omega) (by omega)).mono ?_
          rintro e w5 hr
          obtain ⟨cs5, F5, rfl, hK5, hb5, hS5⟩ := HS.out.elem hr
          obtain ⟨v5, rfl, hs5⟩ := index_K hK5
          obtain ⟨A5, c5, rfl⟩ := hs5.shape
          obtain ⟨cs6, G6, hK6, hS6⟩ := St.unbox hS5.pull1
          obtain ⟨v6, rfl, hs6⟩ := index_K hK6
          obtain ⟨A6, c6, rfl⟩ := hs6.shape
          have HS5 := hide hS6.drop
          have z0 := hS6.drop.at0.c1
          have zf := hS6.drop.at0.frozen
          have zz := hS6.drop.at0.lt
          clear hr hK5 hb5 hS5 hs5 hK6 hs6 hS6)
        go_roundg (l.messages.length - (k + 1))
        case measure => omega
        case rel =>
          have key : ∀ W', St w W' (blk (w1.heap.size + 1) #[.slice A5 (addM es m).length c5] 33 :: ownD indexD ⟨addM es m⟩ [.slice A5 (addM es m).length c5] F5 :: [blk (w.heap.size + 1) #[.slice none 0 0] 33, blk w.heap.size #[.int .i64 l.next, .slice (some ⟨q, o2, none⟩) l.messages.length c1] 58]) → St w W' (boxP indexD 33 (w1.heap.size + 1) ⟨ixEs (l.messages.take (k + 1))⟩ ((w1.heap.size + 1) :: F5) :: [blk (w.heap.size + 1) #[.slice none 0 0] 33, blk w.heap.size #[.int .i64 l.next, .slice (some ⟨q, o2, none⟩) l.messages.length c1] 58]) := by
            intro W' h
            rw [HX.out]
            exact St.boxUp h.pull1 rfl
          exact ⟨k + 1, (w1.heap.size + 1) :: F5, by omega, by omega, by go_num, hide (key _ (by (repeat (first | (with_reducible exact HS5.out) | (with_reducible apply St.alloc) | (with_reducible apply St.set0) | (with_reducible apply St.set1) | (with_reducible apply St.set2) | (with_reducible apply St.set3) | (with_reducible apply St.drew) | (with_reducible apply St.drewN))); all_goals (try (first | rfl | (simp; done)))))⟩
      · obtain rfl : k = l.messages.length := by omega
        rw [List.take_length] at HS
        (try clear y0 yf yz)
        obtain ⟨cs, G, hK, hS⟩ := St.unbox HS.out
        obtain ⟨v5, rfl, hs⟩ := index_K hK
        obtain ⟨A5, c5, rfl⟩ := hs.shape
        have HU := hide hS
        have u0 := hS.at1.c1
        have uf := hS.at1.frozen
        have uz := hS.at1.lt
        clear hK hs hS
        have y0 := HU.out.at2.c1
        have yf := HU.out.at2.frozen
        have yz := HU.out.at2.lt
        go_wp2_with fail
        refine bodyPost_ret (v := .tuple #[.agg #[.slice A5 (ixEs l.messages).length c5], .bool true]) (by simp [results, Try.results40, go_sem, u0, uf, uz, y0, yf, yz]) rfl ?_
        rw [HP.out, HOK.out]
        exact St.ret2 (cs := [.slice A5 (ixEs l.messages).length c5]) (F := G) (show St w _ (ownD indexD ⟨ixEs l.messages⟩ [.slice A5 (ixEs l.messages).length c5] G :: blk (w1.heap.size + 1) #[.slice A5 (ixEs l.messages).length c5] 33 :: [blk (w.heap.size + 1) #[.slice A5 (ixEs l.messages).length c5] 33, blk w.heap.size #[.int .i64 l.next, .slice A1 l.messages.length c1] 58]) from by (repeat (first | (with_reducible exact HU.out) | (with_reducible apply St.alloc) | (with_reducible apply St.set0) | (with_reducible apply St.set1) | (with_reducible apply St.set2) | (with_reducible apply St.set3) | (with_reducible apply St.drew) | (with_reducible apply St.drewN))); all_goals (try (first | rfl | (simp; done)))) rfl
  · have HV := hide (show validLogB l = false by simpa using hv)
    have HOK := hide (show ioOk l = false from HV.out)
    have HP := hide (show ioV l = noIx by unfold ioV; rw [HOK.out]; rfl)
    clear hv
    go_enter Try.func40, Try.ntmps40
    go_wp2_with (
          (go_at_call 73
           refine (l03Is_c l _ _ _ (Blk.rowAt (d := logD) (x := l) HS0.out.at1 (log_K_mk (H1.out.below HS0.out.below)) rfl) HT.out).mono ?_
           rintro e w1 ⟨rfl, hb⟩
           rw [HV.out]
           have HS1 := hide (HS0.out.by hb)
           (try clear x0 x1 xz y0 yf yz)
           obtain ⟨x0, x1⟩ := HS1.out.at1.c2
           have xz := HS1.out.at1.lt
           have y0 := HS1.out.at0.c1
           have yf := HS1.out.at0.frozen
           have yz := HS1.out.at0.lt
           clear hb))
    refine bodyPost_ret (v := .tuple #[.agg #[.slice none 0 0], .bool false]) (by simp [results, Try.results40, go_sem, y0, yf, yz]) rfl ?_
    rw [HP.out, HOK.out]
    exact St.ret2 (cs := [.slice none 0 0]) (F := []) (St.noIx (show St w _ [blk (w.heap.size + 1) #[.slice none 0 0] 33, blk w.heap.size #[.int .i64 l.next, .slice A1 l.messages.length c1] 58] from by (repeat (first | (with_reducible exact HS1.out) | (with_reducible apply St.alloc) | (with_reducible apply St.set0) | (with_reducible apply St.set1) | (with_reducible apply St.set2) | (with_reducible apply St.set3) | (with_reducible apply St.drew) | (with_reducible apply St.drewN))); all_goals (try (first | rfl | (simp; done))))) rfl
set_option maxHeartbeats 16000000 in
set_option maxRecDepth 100000 in
theorem indexOf_c (l : Log) (v1 : Value) (w : World) (h1 : SliceK messageD w v1 l.messages) (ht : okTexts l.messages) :
    Calls Try.prog 41 #[.agg #[.int .i64 l.next, v1]] w (RetElem2 indexD w (ioV l) (ioOk l)) := by
  obtain ⟨A1, c1, rfl⟩ := h1.shape
  have H1 := hide h1
  have HT := hide ht
  clear h1 ht
  have HS0 := hide (show St w ((w.alloc (.cells #[.int .i64 l.next, .slice A1 l.messages.length c1] 58)).alloc (.cells #[.slice none 0 0] 33)) [blk (w.heap.size + 1) #[.slice none 0 0] 33, blk w.heap.size #[.int .i64 l.next, .slice A1 l.messages.length c1] 58] by (repeat (first | (with_reducible exact St.start w) | (with_reducible apply St.alloc) | (with_reducible apply St.set0) | (with_reducible apply St.set1) | (with_reducible apply St.set2) | (with_reducible apply St.set3) | (with_reducible apply St.drew) | (with_reducible apply St.drewN))); all_goals (try (first | rfl | (simp; done))))
  (try clear x0 x1 xz y0 yf yz)
  obtain ⟨x0, x1⟩ := HS0.out.at1.c2
  have xz := HS0.out.at1.lt
  have y0 := HS0.out.at0.c1
  have yf := HS0.out.at0.frozen
  have yz := HS0.out.at0.lt
  by_cases hv : validLogB l = true
  · have HV := hide hv
    have HOK := hide (show ioOk l = true from hv)
    have HP := hide (show ioV l = ⟨ixEs l.messages⟩ by unfold ioV; rw [HOK.out]; rfl)
    have h40 := validLog_40 hv
    have HMO := hide (msgs_ok hv)
    have HFIT := hide (fun k hk => ixEs_fit (ms := l.messages) (fun m hm => (valid_small (HMO.out m hm)).1) k hk)
    clear hv
    go_enter Try.func41, Try.ntmps41
    go_wp2_with (
      (go_at_call 77
       refine (validLog_c l _ _ (H1.out.below HS0.out.below) HT.out).mono ?_
       rintro e w1 ⟨rfl, hb⟩
       rw [HV.out]
       have HS1 := hide (HS0.out.by hb)
       (try clear x0 x1 xz y0 yf yz)
       obtain ⟨x0, x1⟩ := HS1.out.at1.c2
       have xz := HS1.out.at1.lt
       have y0 := HS1.out.at0.c1
       have yf := HS1.out.at0.frozen
       have yz := HS1.out.at0.lt
       clear hb))
    go_loopg [6, 15] l.messages.length (fun gg s6 s15 wr => ∃ (k : Nat) (Fb : List Nat), k ≤ l.messages.length ∧ l.messages.length - k ≤ gg ∧ s15 = .int .i64 k ∧ Hid (St w wr (boxP indexD 33 w1.heap.size ⟨ixEs (l.messages.take k)⟩ Fb :: [blk (w.heap.size + 1) #[.slice none 0 0] 33, blk w.heap.size #[.int .i64 l.next, .slice A1 l.messages.length c1] 58])))
    case atStart =>
      refine ⟨0, w1.heap.size :: [], Nat.zero_le _, by omega, rfl, hide ?_⟩
      rw [List.take_zero]
      have key : ∀ W', St w W' (blk w1.heap.size #[.slice none 0 0] 33 :: [blk (w.heap.size + 1) #[.slice none 0 0] 33, blk w.heap.size #[.int .i64 l.next, .slice A1 l.messages.length c1] 58]) → St w W' (boxP indexD 33 w1.heap.size ⟨ixEs []⟩ (w1.heap.size :: []) :: [blk (w.heap.size + 1) #[.slice none 0 0] 33, blk w.heap.size #[.int .i64 l.next, .slice A1 l.messages.length c1] 58]) := by
        intro W' h
        exact St.boxUp (show St w W' (ownD indexD ⟨ixEs []⟩ [.slice none 0 0] [] :: blk w1.heap.size #[.slice none 0 0] 33 :: [blk (w.heap.size + 1) #[.slice none 0 0] 33, blk w.heap.size #[.int .i64 l.next, .slice A1 l.messages.length c1] 58]) from St.noIx h) rfl
      exact key _ (by (repeat (first | (with_reducible exact HS1.out) | (with_reducible apply St.alloc) | (with_reducible apply St.set0) | (with_reducible apply St.set1) | (with_reducible apply St.set2) | (with_reducible apply St.set3) | (with_reducible apply St.drew) | (with_reducible apply St.drewN))); all_goals (try (first | rfl | (simp; done))))
    case round =>
      obtain ⟨k, Fb, hk, hg, rfl, HS⟩ := hrel
      (try clear x0 x1 xz y0 yf yz)
      by_cases hlt : k < l.messages.length
      · obtain ⟨m, hx⟩ : ∃ m, l.messages[k]? = some m := ⟨_, List.getElem?_eq_getElem hlt⟩
        obtain ⟨A1', c1', heq, hlc, hmx, hra⟩ := H1.out
        simp only [Value.slice.injEq] at heq
        obtain ⟨rfl, -, rfl⟩ := heq
        rcases hra with hnil | ⟨q, o2, rfl, hra⟩
        · rw [hnil] at hlt; simp at hlt
        have HX := hide (ixEs_step hx)
        have hts := (valid_small (HMO.out m (List.mem_of_getElem? hx))).1
        have hlt2 : (k : Int) < (l.messages.length : Int) := by omega
        obtain ⟨v7, h7, hq0, hc0, hc1, hc2, hc3, hc4, hc5, hc6, hc7⟩ := message_at hra HS.out.below hx
        obtain ⟨A7, c7, rfl⟩ := h7.shape
        have HFK := hide (HFIT.out k hk)
        obtain ⟨es, hes⟩ : ∃ es, es = ixEs (l.messages.take k) := ⟨_, rfl⟩
        rw [← hes] at HS HX HFK
        clear hra hx hes h7
        go_wp2_with (
          go_at_call 92
          refine (addIx_c ⟨es⟩ m A7 m.likes.length c7 (80 * k) (80 * k) _ Fb w _ (blk wr.heap.size #[.int .i64 m.number, .int .i64 m.sender, .int .i64 m.at_, .string m.text, .int .i64 m.edits, .bool m.gone, .int .i64 m.reply, .slice A7 m.likes.length c7] 47 :: [blk (w.heap.size + 1) #[.slice none 0 0] 33, blk w.heap.size #[.int .i64 l.next, .slice (some ⟨q, o2, none⟩) l.messages.length c1] 58]) (show St w _ (boxP indexD 33 w1.heap.size ⟨es⟩ Fb :: blk wr.heap.size #[.int .i64 m.number, .int .i64 m.sender, .int .i64 m.at_, .string m.text, .int .i64 m.edits, .bool m.gone, .int .i64 m.reply, .slice A7 m.likes.length c7] 47 :: [blk (w.heap.size + 1) #[.slice none 0 0] 33, blk w.heap.size #[.int .i64 l.next, .slice (some ⟨q, o2, none⟩) l.messages.length c1] 58]) from by (repeat (first | (with_reducible exact (HS.out.alloc (k := wr.heap.size) (arr := #[.int .i64 m.number, .int .i64 m.sender, .int .i64 m.at_, .string m.text, .int .i64 m.edits, .bool m.gone, .int .i64 m.reply, .slice A7 m.likes.length c7]) (e := 47) rfl).pull1) | (with_reducible apply St.alloc) | (with_reducible apply St.set0) | (with_reducible apply St.set1) | (with_reducible apply St.set2) | (with_reducible apply St.set3) | (with_reducible apply St.drew) | (with_reducible apply St.drewN))); all_goals (try (first | rfl | (simp; done)))) HFK.out hts (by omega) (by omega)).mono ?_
          rintro e w5 ⟨rfl, F5, hS5⟩
          have HS5 := hide hS5.drop1
          clear hS5)
        go_roundg (l.messages.length - (k + 1))
        case measure => omega
        case rel => exact ⟨k + 1, F5, by omega, by omega, by go_num, hide (by rw [HX.out]; exact HS5.out)⟩
      · obtain rfl : k = l.messages.length := by omega
        rw [List.take_length] at HS
        obtain ⟨cs, G, hK, hS⟩ := St.unbox HS.out
        obtain ⟨v5, rfl, hs⟩ := index_K hK
        obtain ⟨A5, c5, rfl⟩ := hs.shape
        have HU := hide hS
        have u0 := hS.at1.c1
        have uf := hS.at1.frozen
        have uz := hS.at1.lt
        clear hK hs hS
        have y0 := HU.out.at2.c1
        have yf := HU.out.at2.frozen
        have yz := HU.out.at2.lt
        go_wp2_with fail
        refine bodyPost_ret (v := .tuple #[.agg #[.slice A5 (ixEs l.messages).length c5], .bool true]) (by simp [results, Try.results41, go_sem, u0, uf, uz, y0, yf, yz]) rfl ?_
        rw [HP.out, HOK.out]
        exact St.ret2 (cs := [.slice A5 (ixEs l.messages).length c5]) (F := G) (show St w _ (ownD indexD ⟨ixEs l.messages⟩ [.slice A5 (ixEs l.messages).length c5] G :: blk w1.heap.size #[.slice A5 (ixEs l.messages).length c5] 33 :: [blk (w.heap.size + 1) #[.slice A5 (ixEs l.messages).length c5] 33, blk w.heap.size #[.int .i64 l.next, .slice A1 l.messages.length c1] 58]) from by (repeat (first | (with_reducible exact HU.out) | (with_reducible apply St.alloc) | (with_reducible apply St.set0) | (with_reducible apply St.set1) | (with_reducible apply St.set2) | (with_reducible apply St.set3) | (with_reducible apply St.drew) | (with_reducible apply St.drewN))); all_goals (try (first | rfl | (simp; done)))) rfl
  · have HV := hide (show validLogB l = false by simpa using hv)
    have HOK := hide (show ioOk l = false from HV.out)
    have HP := hide (show ioV l = noIx by unfold ioV; rw [HOK.out]; rfl)
    clear hv
    go_enter Try.func41, Try.ntmps41
    go_wp2_with (
          (go_at_call 77
           refine (validLog_c l _ _ (H1.out.below HS0.out.below) HT.out).mono ?_
           rintro e w1 ⟨rfl, hb⟩
           rw [HV.out]
           have HS1 := hide (HS0.out.by hb)
           (try clear x0 x1 xz y0 yf yz)
           obtain ⟨x0, x1⟩ := HS1.out.at1.c2
           have xz := HS1.out.at1.lt
           have y0 := HS1.out.at0.c1
           have yf := HS1.out.at0.frozen
           have yz := HS1.out.at0.lt
           clear hb))
    refine bodyPost_ret (v := .tuple #[.agg #[.slice none 0 0], .bool false]) (by simp [results, Try.results41, go_sem, y0, yf, yz]) rfl ?_
    rw [HP.out, HOK.out]
    exact St.ret2 (cs := [.slice none 0 0]) (F := []) (St.noIx (show St w _ [blk (w.heap.size + 1) #[.slice none 0 0] 33, blk w.heap.size #[.int .i64 l.next, .slice A1 l.messages.length c1] 58] from by (repeat (first | (with_reducible exact HS1.out) | (with_reducible apply St.alloc) | (with_reducible apply St.set0) | (with_reducible apply St.set1) | (with_reducible apply St.set2) | (with_reducible apply St.set3) | (with_reducible apply St.drew) | (with_reducible apply St.drewN))); all_goals (try (first | rfl | (simp; done))))) rfl
end Go.Proofs.Yticjphaagmnahaa
