/- A room is changed by something that tells whether it can be done: the program's changed. -/
import Derived.Test.YtglhepbcbildpaaValidRoom
import Derived.Test.YtglhepbcbildpaaL02Copy
import Derived.Test.YtglhepbcbildpaaRTypes
namespace Go.Proofs.Ytglhepbcbildpaa
open Go Go.RowKit Go.BigFrame
set_option linter.unusedVariables false
set_option linter.unusedSimpArgs false

def noRoom : Room := ⟨false, [], [], []⟩
def chOk (r : Room) (f : Room → Room × Bool) : Bool := validRoomB r && (f r).2 && validRoomB (f r).1
def chR (r : Room) (f : Room → Room × Bool) : Room := if chOk r f then (f r).1 else noRoom
theorem chR_no {r : Room} {f : Room → Room × Bool} (h : chOk r f = false) : chR r f = noRoom := by simp [chR, h]
theorem chR_yes {r : Room} {f : Room → Room × Bool} (h : chOk r f = true) : chR r f = (f r).1 := by simp [chR, h]
theorem noRoom_M (w : World) : roomD.M w noRoom [.bool false, .slice none 0 0, .slice none 0 0, .slice none 0 0] [] := room_M_mk (x := noRoom) (F1 := []) (F2 := []) (F3 := []) (.inl ⟨rfl, rfl, rfl⟩) (.inl ⟨rfl, rfl, rfl⟩) (.inl ⟨rfl, rfl, rfl⟩)
theorem St.noRoom {w0 w : World} {L : List Piece} (h : St w0 w L) : St w0 w (ownD roomD noRoom [.bool false, .slice none 0 0, .slice none 0 0, .slice none 0 0] [] :: L) :=
  h.new (Below.refl _ _) (noRoom_M w) (by simp [ownD]) (by simp [ownD])
/-- A room in a box of one's own, open: its block and its rows. -/
theorem St.roomOpen {w0 w : World} {L : List Piece} {x : Room} {b : Nat} {F : List Nat} (h : St w0 w (boxP roomD 28 b x F :: L)) : ∃ A1 c1 A2 c2 A3 c3 F1 F2 F3,
    St w0 w (blk b #[.bool x.open_, .slice A1 x.members.length c1, .slice A2 x.invites.length c2, .slice A3 x.bans.length c3] 28 :: own memberD 55 (.slice A1 x.members.length c1) x.members F1 ::
      own inviteD 39 (.slice A2 x.invites.length c2) x.invites F2 :: own banD 41 (.slice A3 x.bans.length c3) x.bans F3 :: L) := by
  obtain ⟨cs, G, rfl, hb, hm, hn⟩ := h.head
  obtain ⟨v1, v2, v3, F1, F2, F3, rfl, rfl, h1, h2, h3⟩ := room_M hm
  obtain ⟨A1, c1, rfl⟩ := h1.toK.shape
  obtain ⟨A2, c2, rfl⟩ := h2.toK.shape
  obtain ⟨A3, c3, rfl⟩ := h3.toK.shape
  refine ⟨A1, c1, A2, c2, A3, c3, F1, F2, F3, h.below, fun p hp => ?_, ?_, fun c hc => ?_⟩
  · rcases List.mem_cons.1 hp with rfl | hp
    · exact hb
    rcases List.mem_cons.1 hp with rfl | hp
    · exact h1
    rcases List.mem_cons.1 hp with rfl | hp
    · exact h2
    rcases List.mem_cons.1 hp with rfl | hp
    · exact h3
    exact h.drop.all p hp
  · have := h.nodup
    simpa [feet_cons, blk, own, boxP] using this
  · refine h.ge c ?_
    simpa [feet_cons, blk, own, boxP] using hc
theorem St.roomShut {w0 w : World} {L : List Piece} {x : Room} {b : Nat} {v1 v2 v3 : Value} {F1 F2 F3 : List Nat}
    (h : St w0 w (blk b #[.bool x.open_, v1, v2, v3] 28 :: own memberD 55 v1 x.members F1 :: own inviteD 39 v2 x.invites F2 :: own banD 41 v3 x.bans F3 :: L)) :
    St w0 w (boxP roomD 28 b x (b :: (F1 ++ (F2 ++ F3))) :: L) := by
  have hn := h.nodup
  have h1 := h.drop.head
  have h2 := h.drop.drop.head
  have h3 := h.drop.drop.drop.head
  refine ⟨h.below, fun p hp => ?_, ?_, fun c hc => ?_⟩
  · rcases List.mem_cons.1 hp with rfl | hp
    · refine ⟨_, _, rfl, h.head, room_M_mk h1 h2 h3, ?_⟩
      have h5 : (feet [blk b #[.bool x.open_, v1, v2, v3] 28, own memberD 55 v1 x.members F1, own inviteD 39 v2 x.invites F2, own banD 41 v3 x.bans F3] ++ feet L).Nodup := by simpa [feet_cons, feet, blk, own] using hn
      have h6 := (List.nodup_append.1 h5).1
      simpa [feet_cons, feet, blk, own] using h6
    · exact h.drop.drop.drop.drop.all p hp
  · simpa [feet_cons, blk, own, boxP] using hn
  · refine h.ge c ?_
    simpa [feet_cons, blk, own, boxP] using hc
set_option maxHeartbeats 8000000 in
set_option maxRecDepth 100000 in
theorem changed_c (g : Nat) (caps : Array Value) (f : Room → Room × Bool) (r : Room) (v1 v2 v3 : Value) (w : World) (h1 : SliceK memberD w v1 r.members) (h2 : SliceK inviteD w v2 r.invites) (h3 : SliceK banD w v3 r.bans)
    (eg : ∀ args w, (callFunc g args).run Try.prog w = .ok (.enter g args) w) (hu : TurnsS Try.prog roomD 28 g caps (fun r => validRoomB r = true) f w) :
    Calls Try.prog 16 #[.agg #[.bool r.open_, v1, v2, v3], .func (.func g) #[] caps] w (RetElem2 roomD w (chR r f) (chOk r f)) := by
  obtain ⟨A1, c1, rfl⟩ := h1.shape
  obtain ⟨A2, c2, rfl⟩ := h2.shape
  obtain ⟨A3, c3, rfl⟩ := h3.shape
  have H1 := hide h1
  have H2 := hide h2
  have H3 := hide h3
  have HTU := hide hu
  clear h1 h2 h3 hu
  have HS0 := hide (show St w ((w.alloc (.cells #[.bool r.open_, .slice A1 r.members.length c1, .slice A2 r.invites.length c2, .slice A3 r.bans.length c3] 28)).alloc (.cells #[.bool false, .slice none 0 0, .slice none 0 0, .slice none 0 0] 28)) [blk (w.heap.size + 1) #[.bool false, .slice none 0 0, .slice none 0 0, .slice none 0 0] 28, blk w.heap.size #[.bool r.open_, .slice A1 r.members.length c1, .slice A2 r.invites.length c2, .slice A3 r.bans.length c3] 28] from ((St.start w).alloc rfl).alloc (by simp))
  by_cases hv : validRoomB r = true
  · have HV := hide hv
    have HFEW := hide (fewR_of hv)
    clear hv
    by_cases hf2 : (f r).2 = true
    · have HF2 := hide hf2
      clear hf2
      by_cases hv2 : validRoomB (f r).1 = true
      · have HV2 := hide hv2
        have HOK := hide (show chOk r f = true by simp [chOk, HV.out, HF2.out, HV2.out])
        clear hv2
        go_enter Try.func16, Try.ntmps16
        go_wp2_with (first
          | (go_at_call 11
             refine (validRoom_c (f r).1 _ _ _ _ K4.out.1 K4.out.2.1 K4.out.2.2).mono ?_
             rintro e w5 ⟨rfl, hb⟩
             rw [HV2.out]
             obtain ⟨cs5, F5, hK, hS⟩ := (HS4.out.by hb).unbox
             obtain ⟨u1, u2, u3, rfl, k1, k2, k3⟩ := room_K hK
             obtain ⟨G1, g1, rfl⟩ := k1.shape
             obtain ⟨G2, g2, rfl⟩ := k2.shape
             obtain ⟨G3, g3, rfl⟩ := k3.shape
             have HS5 := hide hS
             (obtain ⟨x5_0, x5_1, x5_2, x5_3⟩ := HS5.out.at2.c4; have xf5 := HS5.out.at2.frozen; have xz5 := HS5.out.at2.lt)
             (obtain ⟨y5_0, y5_1, y5_2, y5_3⟩ := HS5.out.at1.c4; have yz5 := HS5.out.at1.lt)
             clear hb hK k1 k2 k3 hS)
          | (go_at_call 11
             refine (validRoom_c r _ _ _ _ (H1.out.below HS0.out.below) (H2.out.below HS0.out.below) (H3.out.below HS0.out.below)).mono ?_
             rintro e w1 ⟨rfl, hb⟩
             rw [HV.out]
             have HS1 := hide (HS0.out.by hb)
             (obtain ⟨x1_0, x1_1, x1_2, x1_3⟩ := HS1.out.at0.c4; have xf1 := HS1.out.at0.frozen; have xz1 := HS1.out.at0.lt)
             (obtain ⟨y1_0, y1_1, y1_2, y1_3⟩ := HS1.out.at1.c4; have yz1 := HS1.out.at1.lt)
             clear hb)
          | (go_at_call 38
             refine (cloneRoom_c r _ _ _ _ (H1.out.below HS1.out.below) (H2.out.below HS1.out.below) (H3.out.below HS1.out.below) HFEW.out).mono ?_
             rintro e w2 he
             obtain ⟨cs2, F2, rfl, hK, hb, hS⟩ := HS1.out.elem he
             obtain ⟨u1, u2, u3, rfl, k1, k2, k3⟩ := room_K hK
             obtain ⟨B1, e1, rfl⟩ := k1.shape
             obtain ⟨B2, e2, rfl⟩ := k2.shape
             obtain ⟨B3, e3, rfl⟩ := k3.shape
             have HS2 := hide hS
             (obtain ⟨x2_0, x2_1, x2_2, x2_3⟩ := HS2.out.at1.c4; have xf2 := HS2.out.at1.frozen; have xz2 := HS2.out.at1.lt)
             have HS3 := hide (St.box (e := 28) (k := w2.heap.size) (arr := #[.bool r.open_, .slice B1 r.members.length e1, .slice B2 r.invites.length e2, .slice B3 r.bans.length e3]) hS rfl rfl)
             clear hK k1 k2 k3 hb hS he)
          | (go_at_fn g
             refine (HTU.out r w2.heap.size _ _ _ HS3.out HV.out).mono ?_
             rintro e w4 ⟨rfl, A4, hS4, hyes⟩
             rw [HF2.out]
             obtain ⟨F4, rfl⟩ := hyes HF2.out
             have HS4 := hide hS4
             (obtain ⟨x4_0, x4_1, x4_2, x4_3⟩ := HS4.out.at1.c4; have xf4 := HS4.out.at1.frozen; have xz4 := HS4.out.at1.lt)
             obtain ⟨q1, q2, q3, k1, k2, k3, z4, b4_0, b4_1, b4_2, b4_3⟩ := room_at HS4.out.boxRow (Below.refl _ _) (j := 0) rfl
             simp only [Nat.zero_mul, Nat.add_zero] at b4_0 b4_1 b4_2 b4_3
             have K4 := hide (And.intro k1 (And.intro k2 k3))
             clear k1 k2 k3
             clear hS4 hyes))
        refine bodyPost_ret (v := .tuple #[.agg #[.bool (f r).1.open_, .slice G1 (f r).1.members.length g1, .slice G2 (f r).1.invites.length g2, .slice G3 (f r).1.bans.length g3], .bool true]) (by simp [results, Try.results16, go_sem, x5_0, x5_1, x5_2, x5_3, xf5, xz5]) rfl ?_
        rw [chR_yes HOK.out, HOK.out]
        exact St.ret2 (cs := [.bool (f r).1.open_, .slice G1 (f r).1.members.length g1, .slice G2 (f r).1.invites.length g2, .slice G3 (f r).1.bans.length g3]) (F := F5) (St.drop (A := blk (w.heap.size + 1) #[.bool (f r).1.open_, .slice G1 (f r).1.members.length g1, .slice G2 (f r).1.invites.length g2, .slice G3 (f r).1.bans.length g3] 28) (by (repeat (first | (with_reducible exact HS5.out.pull2) | (with_reducible apply St.alloc) | (with_reducible apply St.set0) | (with_reducible apply St.set1) | (with_reducible apply St.set2) | (with_reducible apply St.set3) | (with_reducible apply St.drew) | (with_reducible apply St.drewN))); all_goals (try (first | rfl | (simp; done))))) rfl
      · have HV2 := hide (show validRoomB (f r).1 = false by simpa using hv2)
        have HOK := hide (show chOk r f = false by simp [chOk, HV2.out])
        clear hv2
        go_enter Try.func16, Try.ntmps16
        go_wp2_with (first
          | (go_at_call 11
             refine (validRoom_c (f r).1 _ _ _ _ K4.out.1 K4.out.2.1 K4.out.2.2).mono ?_
             rintro e w5 ⟨rfl, hb⟩
             rw [HV2.out]
             obtain ⟨cs5, F5, hK, hS⟩ := (HS4.out.by hb).unbox
             obtain ⟨u1, u2, u3, rfl, k1, k2, k3⟩ := room_K hK
             obtain ⟨G1, g1, rfl⟩ := k1.shape
             obtain ⟨G2, g2, rfl⟩ := k2.shape
             obtain ⟨G3, g3, rfl⟩ := k3.shape
             have HS5 := hide hS
             (obtain ⟨x5_0, x5_1, x5_2, x5_3⟩ := HS5.out.at2.c4; have xf5 := HS5.out.at2.frozen; have xz5 := HS5.out.at2.lt)
             (obtain ⟨y5_0, y5_1, y5_2, y5_3⟩ := HS5.out.at1.c4; have yz5 := HS5.out.at1.lt)
             clear hb hK k1 k2 k3 hS)
          | (go_at_call 11
             refine (validRoom_c r _ _ _ _ (H1.out.below HS0.out.below) (H2.out.below HS0.out.below) (H3.out.below HS0.out.below)).mono ?_
             rintro e w1 ⟨rfl, hb⟩
             rw [HV.out]
             have HS1 := hide (HS0.out.by hb)
             (obtain ⟨x1_0, x1_1, x1_2, x1_3⟩ := HS1.out.at0.c4; have xf1 := HS1.out.at0.frozen; have xz1 := HS1.out.at0.lt)
             (obtain ⟨y1_0, y1_1, y1_2, y1_3⟩ := HS1.out.at1.c4; have yz1 := HS1.out.at1.lt)
             clear hb)
          | (go_at_call 38
             refine (cloneRoom_c r _ _ _ _ (H1.out.below HS1.out.below) (H2.out.below HS1.out.below) (H3.out.below HS1.out.below) HFEW.out).mono ?_
             rintro e w2 he
             obtain ⟨cs2, F2, rfl, hK, hb, hS⟩ := HS1.out.elem he
             obtain ⟨u1, u2, u3, rfl, k1, k2, k3⟩ := room_K hK
             obtain ⟨B1, e1, rfl⟩ := k1.shape
             obtain ⟨B2, e2, rfl⟩ := k2.shape
             obtain ⟨B3, e3, rfl⟩ := k3.shape
             have HS2 := hide hS
             (obtain ⟨x2_0, x2_1, x2_2, x2_3⟩ := HS2.out.at1.c4; have xf2 := HS2.out.at1.frozen; have xz2 := HS2.out.at1.lt)
             have HS3 := hide (St.box (e := 28) (k := w2.heap.size) (arr := #[.bool r.open_, .slice B1 r.members.length e1, .slice B2 r.invites.length e2, .slice B3 r.bans.length e3]) hS rfl rfl)
             clear hK k1 k2 k3 hb hS he)
          | (go_at_fn g
             refine (HTU.out r w2.heap.size _ _ _ HS3.out HV.out).mono ?_
             rintro e w4 ⟨rfl, A4, hS4, hyes⟩
             rw [HF2.out]
             obtain ⟨F4, rfl⟩ := hyes HF2.out
             have HS4 := hide hS4
             (obtain ⟨x4_0, x4_1, x4_2, x4_3⟩ := HS4.out.at1.c4; have xf4 := HS4.out.at1.frozen; have xz4 := HS4.out.at1.lt)
             obtain ⟨q1, q2, q3, k1, k2, k3, z4, b4_0, b4_1, b4_2, b4_3⟩ := room_at HS4.out.boxRow (Below.refl _ _) (j := 0) rfl
             simp only [Nat.zero_mul, Nat.add_zero] at b4_0 b4_1 b4_2 b4_3
             have K4 := hide (And.intro k1 (And.intro k2 k3))
             clear k1 k2 k3
             clear hS4 hyes))
        refine bodyPost_ret (v := .tuple #[.agg #[.bool false, .slice none 0 0, .slice none 0 0, .slice none 0 0], .bool false]) (by simp [results, Try.results16, go_sem, x5_0, x5_1, x5_2, x5_3, xf5, xz5]) rfl ?_
        rw [chR_no HOK.out, HOK.out]
        exact St.ret2 (cs := [.bool false, .slice none 0 0, .slice none 0 0, .slice none 0 0]) (F := []) (St.noRoom (by (repeat (first | (with_reducible exact HS5.out.pull2) | (with_reducible apply St.alloc) | (with_reducible apply St.set0) | (with_reducible apply St.set1) | (with_reducible apply St.set2) | (with_reducible apply St.set3) | (with_reducible apply St.drew) | (with_reducible apply St.drewN))); all_goals (try (first | rfl | (simp; done))))) rfl
    · have HF2 := hide (show (f r).2 = false by simpa using hf2)
      have HOK := hide (show chOk r f = false by simp [chOk, HF2.out])
      clear hf2
      go_enter Try.func16, Try.ntmps16
      go_wp2_with (first
        | (go_at_call 11
           refine (validRoom_c r _ _ _ _ (H1.out.below HS0.out.below) (H2.out.below HS0.out.below) (H3.out.below HS0.out.below)).mono ?_
           rintro e w1 ⟨rfl, hb⟩
           rw [HV.out]
           have HS1 := hide (HS0.out.by hb)
           (obtain ⟨x1_0, x1_1, x1_2, x1_3⟩ := HS1.out.at0.c4; have xf1 := HS1.out.at0.frozen; have xz1 := HS1.out.at0.lt)
           (obtain ⟨y1_0, y1_1, y1_2, y1_3⟩ := HS1.out.at1.c4; have yz1 := HS1.out.at1.lt)
           clear hb)
        | (go_at_call 38
           refine (cloneRoom_c r _ _ _ _ (H1.out.below HS1.out.below) (H2.out.below HS1.out.below) (H3.out.below HS1.out.below) HFEW.out).mono ?_
           rintro e w2 he
           obtain ⟨cs2, F2, rfl, hK, hb, hS⟩ := HS1.out.elem he
           obtain ⟨u1, u2, u3, rfl, k1, k2, k3⟩ := room_K hK
           obtain ⟨B1, e1, rfl⟩ := k1.shape
           obtain ⟨B2, e2, rfl⟩ := k2.shape
           obtain ⟨B3, e3, rfl⟩ := k3.shape
           have HS2 := hide hS
           (obtain ⟨x2_0, x2_1, x2_2, x2_3⟩ := HS2.out.at1.c4; have xf2 := HS2.out.at1.frozen; have xz2 := HS2.out.at1.lt)
           have HS3 := hide (St.box (e := 28) (k := w2.heap.size) (arr := #[.bool r.open_, .slice B1 r.members.length e1, .slice B2 r.invites.length e2, .slice B3 r.bans.length e3]) hS rfl rfl)
           clear hK k1 k2 k3 hb hS he)
        | (go_at_fn g
           refine (HTU.out r w2.heap.size _ _ _ HS3.out HV.out).mono ?_
           rintro e w4 ⟨rfl, A4, hS4, hyes⟩
           rw [HF2.out]
           have HS4 := hide hS4.drop
           (obtain ⟨x4_0, x4_1, x4_2, x4_3⟩ := HS4.out.at0.c4; have xf4 := HS4.out.at0.frozen; have xz4 := HS4.out.at0.lt)
           clear hS4 hyes))
      refine bodyPost_ret (v := .tuple #[.agg #[.bool false, .slice none 0 0, .slice none 0 0, .slice none 0 0], .bool false]) (by simp [results, Try.results16, go_sem, x4_0, x4_1, x4_2, x4_3, xf4, xz4]) rfl ?_
      rw [chR_no HOK.out, HOK.out]
      exact St.ret2 (cs := [.bool false, .slice none 0 0, .slice none 0 0, .slice none 0 0]) (F := []) (St.noRoom (by (repeat (first | (with_reducible exact HS4.out) | (with_reducible apply St.alloc) | (with_reducible apply St.set0) | (with_reducible apply St.set1) | (with_reducible apply St.set2) | (with_reducible apply St.set3) | (with_reducible apply St.drew) | (with_reducible apply St.drewN))); all_goals (try (first | rfl | (simp; done))))) rfl
  · have HV := hide (show validRoomB r = false by simpa using hv)
    have HOK := hide (show chOk r f = false by simp [chOk, HV.out])
    clear hv
    go_enter Try.func16, Try.ntmps16
    go_wp2_with (go_at_call 11
                 refine (validRoom_c r _ _ _ _ (H1.out.below HS0.out.below) (H2.out.below HS0.out.below) (H3.out.below HS0.out.below)).mono ?_
                 rintro e w1 ⟨rfl, hb⟩
                 rw [HV.out]
                 have HS1 := hide (HS0.out.by hb)
                 (obtain ⟨x1_0, x1_1, x1_2, x1_3⟩ := HS1.out.at0.c4; have xf1 := HS1.out.at0.frozen; have xz1 := HS1.out.at0.lt)
                 (obtain ⟨y1_0, y1_1, y1_2, y1_3⟩ := HS1.out.at1.c4; have yz1 := HS1.out.at1.lt)
                 clear hb)
    refine bodyPost_ret (v := .tuple #[.agg #[.bool false, .slice none 0 0, .slice none 0 0, .slice none 0 0], .bool false]) (by simp [results, Try.results16, go_sem, x1_0, x1_1, x1_2, x1_3, xf1, xz1]) rfl ?_
    rw [chR_no HOK.out, HOK.out]
    exact St.ret2 (cs := [.bool false, .slice none 0 0, .slice none 0 0, .slice none 0 0]) (F := []) (St.noRoom (by (repeat (first | (with_reducible exact HS1.out) | (with_reducible apply St.alloc) | (with_reducible apply St.set0) | (with_reducible apply St.set1) | (with_reducible apply St.set2) | (with_reducible apply St.set3) | (with_reducible apply St.drew) | (with_reducible apply St.drewN))); all_goals (try (first | rfl | (simp; done))))) rfl
end Go.Proofs.Ytglhepbcbildpaa
