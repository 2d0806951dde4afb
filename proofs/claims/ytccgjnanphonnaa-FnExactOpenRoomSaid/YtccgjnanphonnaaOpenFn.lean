/- A room is opened or shut: the program. -/
import Derived.Test.YtccgjnanphonnaaChanged
import Derived.Test.YtccgjnanphonnaaAllowed
namespace Go.Proofs.Ytccgjnanphonnaa
open Go Go.RowKit Go.BigFrame
set_option linter.unusedVariables false
set_option linter.unusedSimpArgs false

def openF (n : Int) (o : Bool) (a : Int) (r : Room) : Room × Bool := ({ r with open_ := o }, allowB r n 8 a)
set_option maxHeartbeats 4000000 in
theorem openRoom1_c (n : Int) (o : Bool) (a : Int) (w : World) {b1 b2 b3 : Nat} (h1 : w.cell? ⟨b1, 0, none⟩ = some (.int .i64 n)) (h2 : w.cell? ⟨b2, 0, none⟩ = some (.bool o)) (h3 : w.cell? ⟨b3, 0, none⟩ = some (.int .i64 a)) :
    TurnsS Try.prog roomD 32 33 #[.pointer (some ⟨b2, 0, none⟩), .pointer (some ⟨b1, 0, none⟩), .pointer (some ⟨b3, 0, none⟩)] (fun r => validRoomB r = true) (openF n o a) w := by
  intro x b F W L hS hv
  show Calls Try.prog 33 #[.pointer (some ⟨b, 0, none⟩), .pointer (some ⟨b2, 0, none⟩), .pointer (some ⟨b1, 0, none⟩), .pointer (some ⟨b3, 0, none⟩)] W _
  have k1 := cell_below hS.below h1
  have k2 := cell_below hS.below h2
  have k3 := cell_below hS.below h3
  have l1 := World.block_lt_of_cell? w _ h1
  have l2 := World.block_lt_of_cell? w _ h2
  have l3 := World.block_lt_of_cell? w _ h3
  simp only at l1 l2 l3
  have hge := hS.headG b hS.head.mem
  obtain ⟨A1, c1, A2, c2, A3, c3, F1, F2, F3, hO⟩ := hS.roomOpen
  have HO := hide hO
  obtain ⟨x0, x1, x2, x3⟩ := hO.at0.c4
  have xf := hO.at0.frozen
  have xz := hO.at0.lt
  have hn1 : ¬ b1 = b := by omega
  have hn2 : ¬ b2 = b := by omega
  have hn3 : ¬ b3 = b := by omega
  clear hS hO hv l1 l2 l3 hge
  go_enter Try.func33, Try.ntmps33
  go_wp2_with (
    go_at_call 34
    refine (allowed_c { x with open_ := o } b 0 n 8 a _ (St.boxRow (St.roomShut (x := { x with open_ := o }) (by (repeat (first | (with_reducible exact HO.out) | (with_reducible apply St.alloc) | (with_reducible apply St.set0) | (with_reducible apply St.set1) | (with_reducible apply St.set2) | (with_reducible apply St.set3) | (with_reducible apply St.drew))); all_goals (try (first | rfl | (simp; done))))))).mono ?_
    rintro e w1 ⟨rfl, hb⟩
    have HS1 := hide (St.by (St.roomShut (x := { x with open_ := o }) (by (repeat (first | (with_reducible exact HO.out) | (with_reducible apply St.alloc) | (with_reducible apply St.set0) | (with_reducible apply St.set1) | (with_reducible apply St.set2) | (with_reducible apply St.set3) | (with_reducible apply St.drew))); all_goals (try (first | rfl | (simp; done))))) hb)
    clear hb)
  go_ret
  exact ⟨rfl, _, HS1.out, fun _ => ⟨_, rfl⟩⟩
def openV (r : Room) (n : Int) (o : Bool) (a : Int) : Room := chR r (openF n o a)
def openOk (r : Room) (n : Int) (o : Bool) (a : Int) : Bool := chOk r (openF n o a)
set_option maxHeartbeats 4000000 in
set_option maxRecDepth 100000 in
theorem openRoom_c (r : Room) (n : Int) (o : Bool) (a : Int) (v1 v2 v3 : Value) (w : World) (h1 : SliceK memberD w v1 r.members) (h2 : SliceK inviteD w v2 r.invites) (h3 : SliceK banD w v3 r.bans) :
    Calls Try.prog 11 #[.agg #[.bool r.open_, v1, v2, v3], .int .i64 n, .bool o, .int .i64 a] w (RetElem2 roomD w (openV r n o a) (openOk r n o a)) := by
  show Calls Try.prog 11 #[.agg #[.bool r.open_, v1, v2, v3], .int .i64 n, .bool o, .int .i64 a] w (RetElem2 roomD w (chR r (openF n o a)) (chOk r (openF n o a)))
  obtain ⟨A1, c1, rfl⟩ := h1.shape
  obtain ⟨A2, c2, rfl⟩ := h2.shape
  obtain ⟨A3, c3, rfl⟩ := h3.shape
  have H1 := hide h1
  have H2 := hide h2
  have H3 := hide h3
  clear h1 h2 h3
  have HS0 := hide (show St w (((((w.alloc (.cells #[.bool r.open_, .slice A1 r.members.length c1, .slice A2 r.invites.length c2, .slice A3 r.bans.length c3] 32)).alloc (.cells #[.int .i64 n] 2)).alloc (.cells #[.bool o] 4)).alloc (.cells #[.int .i64 a] 2)).alloc (.cells #[.bool false, .slice none 0 0, .slice none 0 0, .slice none 0 0] 32)) [blk (w.heap.size + 1 + 1 + 1 + 1) #[.bool false, .slice none 0 0, .slice none 0 0, .slice none 0 0] 32, blk (w.heap.size + 1 + 1 + 1) #[.int .i64 a] 2, blk (w.heap.size + 1 + 1) #[.bool o] 4, blk (w.heap.size + 1) #[.int .i64 n] 2, blk w.heap.size #[.bool r.open_, .slice A1 r.members.length c1, .slice A2 r.invites.length c2, .slice A3 r.bans.length c3] 32] from ((((((St.start w).alloc rfl).alloc (by simp)).alloc (by simp)).alloc (by simp)).alloc (by simp)))
  have HE0 := hide (St.at3 HS0.out).c1
  have HE1 := hide (St.at2 HS0.out).c1
  have HE2 := hide (St.at1 HS0.out).c1
  have eg := enters_of Try.func33 (by kernel_rfl) rfl
  go_enter Try.func11, Try.ntmps11
  go_wp2_with (
    go_at_call 32
    refine (changed_c _ _ (openF n o a) r _ _ _ _ (H1.out.below HS0.out.below) (H2.out.below HS0.out.below) (H3.out.below HS0.out.below) eg (openRoom1_c n o a _ HE0.out HE1.out HE2.out)).mono ?_
    rintro e w1 he
    obtain ⟨cs, F, rfl, hK, hb, hS⟩ := HS0.out.elem2 he
    obtain ⟨u1, u2, u3, rfl, k1, k2, k3⟩ := room_K hK
    obtain ⟨G1, g1, rfl⟩ := k1.shape
    obtain ⟨G2, g2, rfl⟩ := k2.shape
    obtain ⟨G3, g3, rfl⟩ := k3.shape
    have HS1 := hide hS
    obtain ⟨x1_0, x1_1, x1_2, x1_3⟩ := hS.at1.c4
    have xf1 := hS.at1.frozen
    have xz1 := hS.at1.lt
    clear hK k1 k2 k3 hb hS he)
  refine bodyPost_ret (v := .tuple #[.agg #[.bool (chR r (openF n o a)).open_, .slice G1 (chR r (openF n o a)).members.length g1, .slice G2 (chR r (openF n o a)).invites.length g2, .slice G3 (chR r (openF n o a)).bans.length g3], .bool (chOk r (openF n o a))]) (by simp [results, Try.results11, go_sem, x1_0, x1_1, x1_2, x1_3, xf1, xz1]) rfl ?_
  exact St.ret2 (cs := [.bool (chR r (openF n o a)).open_, .slice G1 (chR r (openF n o a)).members.length g1, .slice G2 (chR r (openF n o a)).invites.length g2, .slice G3 (chR r (openF n o a)).bans.length g3]) (F := F) (by (repeat (first | (with_reducible exact HS1.out) | (with_reducible apply St.alloc) | (with_reducible apply St.set0) | (with_reducible apply St.set1) | (with_reducible apply St.set2) | (with_reducible apply St.set3) | (with_reducible apply St.drew))); all_goals (try (first | rfl | (simp; done)))) rfl
theorem open_valid (r : Room) (o : Bool) : validRoomB { r with open_ := o } = validRoomB r := rfl
theorem St.openD {w0 w : World} {L : List Piece} {x : Room} {v0 v1 v2 v3 : Value} {o : Bool} {F : List Nat} (h : St w0 w (ownD roomD x [v0, v1, v2, v3] F :: L)) : St w0 w (ownD roomD { x with open_ := o } [.bool o, v1, v2, v3] F :: L) := by
  refine h.turn (A' := ownD roomD { x with open_ := o } [.bool o, v1, v2, v3] F) (Chg.refl _ _) ?_ h.headN (fun b hb => .inl hb)
  obtain ⟨u1, u2, u3, F1, F2, F3, he, rfl, h1, h2, h3⟩ := room_M h.head
  simp only [List.cons.injEq, and_true] at he
  obtain ⟨-, rfl, rfl, rfl⟩ := he
  exact room_M_mk (x := { x with open_ := o }) h1 h2 h3
set_option maxHeartbeats 4000000 in
set_option maxRecDepth 100000 in
theorem specOpenRoom_c (r : Room) (n : Int) (o : Bool) (a : Int) (v1 v2 v3 : Value) (w : World) (h1 : SliceK memberD w v1 r.members) (h2 : SliceK inviteD w v2 r.invites) (h3 : SliceK banD w v3 r.bans) :
    Calls Try.prog 9 #[.agg #[.bool r.open_, v1, v2, v3], .int .i64 n, .bool o, .int .i64 a] w (RetElem2 roomD w (openV r n o a) (openOk r n o a)) := by
  show Calls Try.prog 9 #[.agg #[.bool r.open_, v1, v2, v3], .int .i64 n, .bool o, .int .i64 a] w (RetElem2 roomD w (chR r (openF n o a)) (chOk r (openF n o a)))
  obtain ⟨A1, c1, rfl⟩ := h1.shape
  obtain ⟨A2, c2, rfl⟩ := h2.shape
  obtain ⟨A3, c3, rfl⟩ := h3.shape
  have H1 := hide h1
  have H2 := hide h2
  have H3 := hide h3
  clear h1 h2 h3
  have HS0 := hide (show St w ((w.alloc (.cells #[.bool r.open_, .slice A1 r.members.length c1, .slice A2 r.invites.length c2, .slice A3 r.bans.length c3] 32)).alloc (.cells #[.bool false, .slice none 0 0, .slice none 0 0, .slice none 0 0] 32)) [blk (w.heap.size + 1) #[.bool false, .slice none 0 0, .slice none 0 0, .slice none 0 0] 32, blk w.heap.size #[.bool r.open_, .slice A1 r.members.length c1, .slice A2 r.invites.length c2, .slice A3 r.bans.length c3] 32] from (((St.start w).alloc rfl).alloc (by simp)))
  by_cases hv : validRoomB r = true
  · have HV := hide hv
    have HFEW := hide (fewR_of hv)
    clear hv
    by_cases ha : allowB r n 8 a = true
    · have HA := hide ha
      have HOK := hide (show chOk r (openF n o a) = true by simp [chOk, openF, HV.out, HA.out, open_valid])
      clear ha
      go_enter Try.func9, Try.ntmps9
      go_wp2_with (first
        | (go_at_call 26
           refine (l02Is_c r _ _ _ (Blk.rowAt (d := roomD) (x := r) HS0.out.at1 (room_K_mk (H1.out.below HS0.out.below) (H2.out.below HS0.out.below) (H3.out.below HS0.out.below)) rfl)).mono ?_
           rintro e w1 ⟨rfl, hb⟩
           rw [HV.out]
           have HS1 := hide (HS0.out.by hb)
           (try clear x1_0 x1_1 x1_2 x1_3 xf1 xz1)
           obtain ⟨x1_0, x1_1, x1_2, x1_3⟩ := HS1.out.at0.c4
           have xf1 := HS1.out.at0.frozen
           have xz1 := HS1.out.at0.lt
           clear hb)
        | (go_at_call 27
           refine (l02Allowed_c r _ _ n 8 a _ (Blk.rowAt (d := roomD) (x := r) HS1.out.at1 (room_K_mk (H1.out.below HS1.out.below) (H2.out.below HS1.out.below) (H3.out.below HS1.out.below)) rfl)).mono ?_
           rintro e w2 ⟨rfl, hb⟩
           rw [HA.out]
           have HS2 := hide (HS1.out.by hb)
           (try clear x1_0 x1_1 x1_2 x1_3 xf1 xz1)
           obtain ⟨x1_0, x1_1, x1_2, x1_3⟩ := HS2.out.at0.c4
           have xf1 := HS2.out.at0.frozen
           have xz1 := HS2.out.at0.lt
           clear hb)
        | (go_at_call 28
           refine (l02Copy_c r _ _ _ (Blk.rowAt (d := roomD) (x := r) HS2.out.at1 (room_K_mk (H1.out.below HS2.out.below) (H2.out.below HS2.out.below) (H3.out.below HS2.out.below)) rfl) HFEW.out).mono ?_
           rintro e w3 he
           obtain ⟨cs9, F9, rfl, hK, hb, hS⟩ := HS2.out.elem he
           obtain ⟨u1, u2, u3, rfl, k1, k2, k3⟩ := room_K hK
           obtain ⟨B1, e1, rfl⟩ := k1.shape
           obtain ⟨B2, e2, rfl⟩ := k2.shape
           obtain ⟨B3, e3, rfl⟩ := k3.shape
           have HSC := hide hS
           (try clear x1_0 x1_1 x1_2 x1_3 xf1 xz1)
           obtain ⟨x1_0, x1_1, x1_2, x1_3⟩ := hS.at1.c4
           have xf1 := hS.at1.frozen
           have xz1 := hS.at1.lt
           skip
           clear hK k1 k2 k3 hb hS he))
      refine bodyPost_ret (v := .tuple #[.agg #[.bool o, .slice B1 r.members.length e1, .slice B2 r.invites.length e2, .slice B3 r.bans.length e3], .bool true]) (by simp [results, Try.results9, go_sem, x1_0, x1_1, x1_2, x1_3, xf1, xz1]) rfl ?_
      rw [chR_yes HOK.out, HOK.out]
      exact St.ret2 (cs := [.bool o, .slice B1 r.members.length e1, .slice B2 r.invites.length e2, .slice B3 r.bans.length e3]) (F := F9) (St.openD (St.drop (A := blk w3.heap.size #[.bool o, .slice B1 r.members.length e1, .slice B2 r.invites.length e2, .slice B3 r.bans.length e3] 32) (by (repeat (first | (with_reducible exact HSC.out) | (with_reducible apply St.alloc) | (with_reducible apply St.set0) | (with_reducible apply St.set1) | (with_reducible apply St.set2) | (with_reducible apply St.set3) | (with_reducible apply St.drew))); all_goals (try (first | rfl | (simp; done)))))) rfl
    · have HA := hide (show allowB r n 8 a = false by simpa using ha)
      have HOK := hide (show chOk r (openF n o a) = false by simp [chOk, openF, HA.out])
      clear ha
      go_enter Try.func9, Try.ntmps9
      go_wp2_with (first
        | (go_at_call 26
           refine (l02Is_c r _ _ _ (Blk.rowAt (d := roomD) (x := r) HS0.out.at1 (room_K_mk (H1.out.below HS0.out.below) (H2.out.below HS0.out.below) (H3.out.below HS0.out.below)) rfl)).mono ?_
           rintro e w1 ⟨rfl, hb⟩
           rw [HV.out]
           have HS1 := hide (HS0.out.by hb)
           (try clear x1_0 x1_1 x1_2 x1_3 xf1 xz1)
           obtain ⟨x1_0, x1_1, x1_2, x1_3⟩ := HS1.out.at0.c4
           have xf1 := HS1.out.at0.frozen
           have xz1 := HS1.out.at0.lt
           clear hb)
        | (go_at_call 27
           refine (l02Allowed_c r _ _ n 8 a _ (Blk.rowAt (d := roomD) (x := r) HS1.out.at1 (room_K_mk (H1.out.below HS1.out.below) (H2.out.below HS1.out.below) (H3.out.below HS1.out.below)) rfl)).mono ?_
           rintro e w2 ⟨rfl, hb⟩
           rw [HA.out]
           have HS2 := hide (HS1.out.by hb)
           (try clear x1_0 x1_1 x1_2 x1_3 xf1 xz1)
           obtain ⟨x1_0, x1_1, x1_2, x1_3⟩ := HS2.out.at0.c4
           have xf1 := HS2.out.at0.frozen
           have xz1 := HS2.out.at0.lt
           clear hb))
      refine bodyPost_ret (v := .tuple #[.agg #[.bool false, .slice none 0 0, .slice none 0 0, .slice none 0 0], .bool false]) (by simp [results, Try.results9, go_sem, x1_0, x1_1, x1_2, x1_3, xf1, xz1]) rfl ?_
      rw [chR_no HOK.out, HOK.out]
      exact St.ret2 (cs := [.bool false, .slice none 0 0, .slice none 0 0, .slice none 0 0]) (F := []) (St.noRoom (by (repeat (first | (with_reducible exact HS2.out) | (with_reducible apply St.alloc) | (with_reducible apply St.set0) | (with_reducible apply St.set1) | (with_reducible apply St.set2) | (with_reducible apply St.set3) | (with_reducible apply St.drew))); all_goals (try (first | rfl | (simp; done))))) rfl
  · have HV := hide (show validRoomB r = false by simpa using hv)
    have HOK := hide (show chOk r (openF n o a) = false by simp [chOk, HV.out])
    clear hv
    go_enter Try.func9, Try.ntmps9
    go_wp2_with (
      (go_at_call 26
       refine (l02Is_c r _ _ _ (Blk.rowAt (d := roomD) (x := r) HS0.out.at1 (room_K_mk (H1.out.below HS0.out.below) (H2.out.below HS0.out.below) (H3.out.below HS0.out.below)) rfl)).mono ?_
       rintro e w1 ⟨rfl, hb⟩
       rw [HV.out]
       have HS1 := hide (HS0.out.by hb)
       (try clear x1_0 x1_1 x1_2 x1_3 xf1 xz1)
       obtain ⟨x1_0, x1_1, x1_2, x1_3⟩ := HS1.out.at0.c4
       have xf1 := HS1.out.at0.frozen
       have xz1 := HS1.out.at0.lt
       clear hb))
    refine bodyPost_ret (v := .tuple #[.agg #[.bool false, .slice none 0 0, .slice none 0 0, .slice none 0 0], .bool false]) (by simp [results, Try.results9, go_sem, x1_0, x1_1, x1_2, x1_3, xf1, xz1]) rfl ?_
    rw [chR_no HOK.out, HOK.out]
    exact St.ret2 (cs := [.bool false, .slice none 0 0, .slice none 0 0, .slice none 0 0]) (F := []) (St.noRoom (by (repeat (first | (with_reducible exact HS1.out) | (with_reducible apply St.alloc) | (with_reducible apply St.set0) | (with_reducible apply St.set1) | (with_reducible apply St.set2) | (with_reducible apply St.set3) | (with_reducible apply St.drew))); all_goals (try (first | rfl | (simp; done))))) rfl
end Go.Proofs.Ytccgjnanphonnaa
