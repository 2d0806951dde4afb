/- Parcels are taken out of a box: the program. -/
import Derived.Test.YtdmhjfajicclaaaPostTake
import Derived.Test.YtdmhjfajicclaaaPostRet
import Derived.Test.YtdmhjfajicclaaaAddSpec
namespace Go.Proofs.Ytdmhjfajicclaaa
open Go Go.RowKit Go.BigFrame
set_option linter.unusedVariables false
set_option linter.unusedSimpArgs false

def tkBs (t : ByteArray) (n : Int) (xs : List Box) : List Box :=
  match xs[lbI t xs]? with
  | some m => xs.set (lbI t xs) (tkB (tkN n m) m)
  | none => xs
def tkF (t : ByteArray) (n : Int) (p : Post) : Post × Bool := ({ p with boxes := tkBs t n p.boxes }, hasT Box.token p.boxes t && inB n 0 64)
/-- What is taken out. -/
def tkL (t : ByteArray) (n : Int) (p : Post) : List Parcel :=
  match p.boxes[lbI t p.boxes]? with
  | some m => m.held.take (tkN n m)
  | none => []
/-- What was missed. -/
def tkM (t : ByteArray) (p : Post) : Int :=
  match p.boxes[lbI t p.boxes]? with
  | some m => m.missed
  | none => 0
theorem tkF_at {t : ByteArray} {n : Int} {p : Post} {i : Nat} {m : Box} (hr : RisesT Box.token p.boxes) (hl : isLbT Box.token p.boxes t i) (hm : p.boxes[i]? = some m) :
    (tkF t n p).1 = { p with boxes := p.boxes.take i ++ tkB (tkN n m) m :: p.boxes.drop (i + 1) } ∧ tkL t n p = m.held.take (tkN n m) ∧ tkM t p = m.missed := by
  have hi : i = lbI t p.boxes := lb_uniq hl (lb_is hr)
  subst hi
  have h1 := (List.getElem?_eq_some_iff.1 hm).1
  refine ⟨?_, ?_, ?_⟩
  · show ({ p with boxes := tkBs t n p.boxes } : Post) = _
    unfold tkBs
    rw [hm]
    simp only [Post.mk.injEq, true_and]
    rw [List.set_eq_take_append_cons_drop, if_pos h1]
  · unfold tkL; rw [hm]
  · unfold tkM; rw [hm]
theorem St.swap22 {w0 w : World} {A B C D E G : Piece} {L : List Piece} (h : St w0 w (A :: B :: C :: D :: E :: G :: L)) : St w0 w (A :: B :: E :: G :: C :: D :: L) :=
  h.perm (List.Perm.cons _ (List.Perm.cons _ (List.Perm.append_right L (List.perm_append_comm (l₁ := [C, D]) (l₂ := [E, G])))))
theorem St.back22 {w0 w : World} {A B C D E G : Piece} {L : List Piece} (h : St w0 w (A :: B :: C :: D :: E :: G :: L)) : St w0 w (C :: D :: E :: G :: A :: B :: L) :=
  h.perm (List.Perm.append_right L (List.perm_append_comm (l₁ := [A, B]) (l₂ := [C, D, E, G])))
theorem St.ne01 {w0 w : World} {a b : Nat} {x y : Array Value} {e f : TypeId} {L : List Piece} (h : St w0 w (blk a x e :: blk b y f :: L)) : ¬ a = b ∧ ¬ b = a := by
  have hn := h.nodup
  simp [feet_cons, blk] at hn
  exact ⟨hn.1.1, fun e => hn.1.1 e.symm⟩
/-- The captured cells, and what was taken. -/
def TkR (t : ByteArray) (n : Int) (b3 b4 : Nat) (p : Post) (X : List Piece) : Prop :=
  ∃ A c F, X = [blk b3 #[.slice A (tkL t n p).length c] 35, blk b4 #[.int .i64 (tkM t p)] 2, own parcelD 68 (.slice A (tkL t n p).length c) (tkL t n p) F]
set_option maxHeartbeats 8000000 in
set_option maxRecDepth 100000 in
theorem takeFrom1_c (t : ByteArray) (n : Int) (w : World) {b1 b2 b3 b4 z : Nat} (h1 : w.cell? ⟨b1, 0, none⟩ = some (.string t)) (h2 : w.cell? ⟨b2, 0, none⟩ = some (.int .i64 n)) :
    TurnsX Try.prog postD 28 39 #[.pointer (some ⟨b1, 0, none⟩), .pointer (some ⟨b2, 0, none⟩), .pointer (some ⟨b3, 0, none⟩), .pointer (some ⟨b4, 0, none⟩)] (fun r => validPostB r = true) (tkF t n) w [blk b3 #[.slice (some ⟨z, 0, none⟩) 0 0] 35, blk b4 #[.int .i64 0] 2] (TkR t n b3 b4) := by
  intro x b F W L hS hv
  replace hS : St w W (boxP postD 28 b x F :: blk b3 #[.slice (some ⟨z, 0, none⟩) 0 0] 35 :: blk b4 #[.int .i64 0] 2 :: L) := hS
  show Calls Try.prog 39 #[.pointer (some ⟨b, 0, none⟩), .pointer (some ⟨b1, 0, none⟩), .pointer (some ⟨b2, 0, none⟩), .pointer (some ⟨b3, 0, none⟩), .pointer (some ⟨b4, 0, none⟩)] W _
  have hcap := cell_below hS.below h1
  have hcz := World.block_lt_of_cell? W _ hcap
  have hcap2 := cell_below hS.below h2
  have hcz2 := World.block_lt_of_cell? W _ hcap2
  simp only [] at hcz hcz2
  have HS := hide hS
  have HV := hide hv
  have hlen := (fewP_of hv).1
  have HR := hide (rises_valid hv)
  clear hS hv h1 h2
  by_cases hi : hasT Box.token x.boxes t = true
  · have HI := hide hi
    by_cases hp : inB n 0 64 = true
    · have HN := hide hp
      have HOK := hide (show (tkF t n x).2 = true by simp [tkF, hi, hp])
      clear hi hp
      go_enter Try.func39, Try.ntmps39
      go_wp2_with (first
        | (go_at_call 32
           refine (postAt_c x b 0 t _ HS.out.boxRow HV.out).mono ?_
           rintro e w1 ⟨⟨i, hlb, rfl⟩, hb⟩
           rw [HI.out]
           have HLB := hide hlb
           have hib := hlb.1
           have hw1 : IntKind.i64.wrap ((i : Int) + 1) = (i : Int) + 1 := IntWalk.i64_in _ (by omega)
           obtain ⟨A, c, rs, F1, Fs, hrl, hO⟩ := (HS.out.by hb).postOpen
           rw [← hrl] at hO
           have HO := hide hO
           have HRL := hide hrl
           have hcap := cell_below hb hcap
           have hcap2 := cell_below hb hcap2
           have hc2 : b2 < w1.heap.size := World.block_lt_of_cell? w1 _ hcap2
           have HBW := hide hb
           (try clear x0 x1 xf xz)
           obtain ⟨x0, x1⟩ := hO.at0.c2
           have xf := hO.at0.frozen
           have xz := hO.at0.lt
           clear hlb hb hO hrl)
        | (go_at_call 40; refine (in_c _ _ _ _).mono ?_; rintro e w' ⟨rfl, rfl⟩; rw [HN.out]))
      obtain ⟨m, hm, hmt⟩ := HLB.out.found HR.out HI.out
      have hil := (List.getElem?_eq_some_iff.1 hm).1
      have hrl := HRL.out
      obtain ⟨A3, c3, G3, Fs3, hr, hS3⟩ := (St.pull2 HO.out).boxCut hm
      obtain ⟨⟨q, rfl⟩, -, -⟩ := St.hasBlk (d := rawD 4) rfl (St.pull1 HO.out) hr
      have HQ := hide (St.swap22 (St.pull3 hS3))
      have HRI := hide hr
      have HM := hide (And.intro hm hmt)
      obtain ⟨hm0, hm1⟩ := box_parts (boxes_ok HV.out m (List.mem_of_getElem? hm))
      have hir : i < rs.length := by omega
      have hii : (i : Int) < (rs.length : Int) := by omega
      have hin : (0 : Int) ≤ (i : Int) := by omega
      clear hm hmt hr hS3 hrl
      go_cut [30] from 22 to 32 (fun s30 w' => ∃ (A5 : Option Addr) (c5 : Nat) (F5 : List Nat) (A2 : Option Addr) (c2 : Nat) (G2 : List Nat), s30 = .tuple #[.slice A5 (m.held.take (tkN n m)).length c5, .int .i64 m.missed] ∧ Hid (St w w' (blk b4 #[.int .i64 m.missed] 2 :: blk b3 #[.slice A5 (m.held.take (tkN n m)).length c5] 35 :: own parcelD 68 (.slice A5 (m.held.take (tkN n m)).length c5) (m.held.take (tkN n m)) F5 :: own (rawD 4) 53 (.slice (some ⟨q, 0, none⟩) rs.length c) (rs.set i (boxRaw (tkB (tkN n m) m) A2 (tkB (tkN n m) m).held.length c2)) F1 :: own parcelD 68 (.slice A2 (tkB (tkN n m) m).held.length c2) (tkB (tkN n m) m).held G2 :: heldsP boxD (x.boxes.take i ++ x.boxes.drop (i + 1)) (rs.take i ++ rs.drop (i + 1)) Fs3 :: blk b #[.int .i64 x.limit, .slice (some ⟨q, 0, none⟩) rs.length c] 28 :: L)))
      case first =>
        go_region_with (
          (go_at_call 41
           refine Calls.mono (takeBox_c n q c i rs F1 m A3 c3 G3 w _ (blk b3 #[.slice (some ⟨z, 0, none⟩) 0 0] 35 :: blk b4 #[.int .i64 0] 2 :: heldsP boxD (x.boxes.take i ++ x.boxes.drop (i + 1)) (rs.take i ++ rs.drop (i + 1)) Fs3 :: blk b #[.int .i64 x.limit, .slice (some ⟨q, 0, none⟩) rs.length c] 28 :: L) (by (repeat (first | (with_reducible exact HQ.out) | (with_reducible apply St.alloc) | (with_reducible apply St.set0) | (with_reducible apply St.set1) | (with_reducible apply St.set2) | (with_reducible apply St.set3) | (with_reducible apply St.drew) | (with_reducible apply St.drewN))); all_goals (try (first | rfl | (simp; done)))) HRI.out HN.out (by omega) (tkN n m) rfl) ?_
           rintro e w3 ⟨A5, c5, F5, A2, c2, G2, rfl, hS4⟩
           have HS4 := hide (St.pull4 (St.pull3 hS4))
           have y4 := HS4.out.at0.c1
           have y4f := HS4.out.at0.frozen
           have y4z := HS4.out.at0.lt
           have y3 := HS4.out.at1.c1
           have y3f := HS4.out.at1.frozen
           have y3z := HS4.out.at1.lt
           obtain ⟨yn, yn2⟩ := HS4.out.ne01
           clear hS4))
        all_goals
          go_wp2_with fail
          go_meet
          case rel => exact ⟨A5, c5, F5, A2, c2, G2, by rw [List.length_take], hide (by (repeat (first | (with_reducible exact HS4.out) | (with_reducible apply St.alloc) | (with_reducible apply St.set0) | (with_reducible apply St.set1) | (with_reducible apply St.set2) | (with_reducible apply St.set3) | (with_reducible apply St.drew) | (with_reducible apply St.drewN))); all_goals (try (first | rfl | (simp; done))))⟩
      case rest =>
        obtain ⟨A5, c5, F5, A2, c2, G2, rfl, HX⟩ := hcut
        go_wp2_with fail
        go_ret
        refine ⟨by rw [HOK.out]; rfl, ?_⟩
        obtain ⟨e1, e2, e3⟩ := tkF_at (n := n) HR.out HLB.out HM.out.1
        rw [e1]
        obtain ⟨Fs', h4⟩ := St.boxBack (y := tkB (tkN n m) m) (St.pull1 (St.pull5 (St.pull4 HX.out))) hil HRL.out
        obtain ⟨P5, h5, F5', rfl⟩ := St.postShutP (p := { x with boxes := x.boxes.take i ++ tkB (tkN n m) m :: x.boxes.drop (i + 1) }) (St.pull5 (St.pull4 h4))
        exact ⟨_, [_, _, _], St.pull1 (St.pull2 h5), fun _ => ⟨⟨F5', rfl⟩, A5, c5, F5, by rw [e2, e3]⟩⟩
    · have HN := hide (show inB n 0 64 = false by simpa using hp)
      have HOK := hide (show (tkF t n x).2 = false by simp [tkF, HN.out])
      clear hi hp
      go_enter Try.func39, Try.ntmps39
      go_wp2_with (first
        | (go_at_call 32
           refine (postAt_c x b 0 t _ HS.out.boxRow HV.out).mono ?_
           rintro e w1 ⟨⟨i, hlb, rfl⟩, hb⟩
           rw [HI.out]
           have HLB := hide hlb
           have hib := hlb.1
           have hw1 : IntKind.i64.wrap ((i : Int) + 1) = (i : Int) + 1 := IntWalk.i64_in _ (by omega)
           obtain ⟨A, c, rs, F1, Fs, hrl, hO⟩ := (HS.out.by hb).postOpen
           rw [← hrl] at hO
           have HO := hide hO
           have HRL := hide hrl
           have hcap := cell_below hb hcap
           have hcap2 := cell_below hb hcap2
           have hc2 : b2 < w1.heap.size := World.block_lt_of_cell? w1 _ hcap2
           have HBW := hide hb
           (try clear x0 x1 xf xz)
           obtain ⟨x0, x1⟩ := hO.at0.c2
           have xf := hO.at0.frozen
           have xz := hO.at0.lt
           clear hlb hb hO hrl)
        | (go_at_call 40; refine (in_c _ _ _ _).mono ?_; rintro e w' ⟨rfl, rfl⟩; rw [HN.out]))
      go_ret
      exact ⟨by rw [HOK.out]; rfl, _, [_, _], (St.postShut HO.out).choose_spec, fun h => by rw [HOK.out] at h; cases h⟩
  · have HI := hide (show hasT Box.token x.boxes t = false by simpa using hi)
    have HOK := hide (show (tkF t n x).2 = false by simp [tkF, HI.out])
    clear hi
    go_enter Try.func39, Try.ntmps39
    go_wp2_with (first
      | (go_at_call 32
         refine (postAt_c x b 0 t _ HS.out.boxRow HV.out).mono ?_
         rintro e w1 ⟨⟨i, hlb, rfl⟩, hb⟩
         rw [HI.out]
         have HLB := hide hlb
         have hib := hlb.1
         have hw1 : IntKind.i64.wrap ((i : Int) + 1) = (i : Int) + 1 := IntWalk.i64_in _ (by omega)
         obtain ⟨A, c, rs, F1, Fs, hrl, hO⟩ := (HS.out.by hb).postOpen
         rw [← hrl] at hO
         have HO := hide hO
         have HRL := hide hrl
         have hcap := cell_below hb hcap
         have hcap2 := cell_below hb hcap2
         have hc2 : b2 < w1.heap.size := World.block_lt_of_cell? w1 _ hcap2
         have HBW := hide hb
         (try clear x0 x1 xf xz)
         obtain ⟨x0, x1⟩ := hO.at0.c2
         have xf := hO.at0.frozen
         have xz := hO.at0.lt
         clear hlb hb hO hrl))
    go_ret
    exact ⟨by rw [HOK.out]; rfl, _, [_, _], (St.postShut HO.out).choose_spec, fun h => by rw [HOK.out] at h; cases h⟩
def tkV (p : Post) (t : ByteArray) (n : Int) : Post := chP p (tkF t n)
def tkOk (p : Post) (t : ByteArray) (n : Int) : Bool := chpOk p (tkF t n)
def tkVL (p : Post) (t : ByteArray) (n : Int) : List Parcel := if tkOk p t n then tkL t n p else []
def tkVM (p : Post) (t : ByteArray) (n : Int) : Int := if tkOk p t n then tkM t p else 0
/-- A post, a row of parcels, a number and a Bool come back. -/
def RetTk (w : World) (p : Post) (ys : List Parcel) (k : Int) (ok : Bool) : Ending → World → Prop := fun e w' =>
  ∃ cs F v G, e = .returned (.tuple #[.agg cs.toArray, v, .int .i64 k, .bool ok]) ∧ St w w' [ownD postD p cs F, own parcelD 68 v ys G]
theorem feet_app (L X : List Piece) : feet (L ++ X) = feet L ++ feet X := by simp [feet]
theorem St.left {w0 w : World} {M L : List Piece} (h : St w0 w (M ++ L)) : St w0 w M := by
  have hn := h.nodup
  rw [feet_app, List.nodup_append] at hn
  exact ⟨h.below, fun p hp => h.all p (List.mem_append.2 (.inl hp)), hn.1, fun b hb => h.ge b (by rw [feet_app]; exact List.mem_append.2 (.inl hb))⟩
theorem tk_ok {p : Post} {t : ByteArray} {n : Int} (h : okPost p) : okPost (tkF t n p).1 := fun b hb => by
  have hb : b ∈ tkBs t n p.boxes := hb
  unfold tkBs at hb
  split at hb
  · rename_i m hm
    rcases List.mem_or_eq_of_mem_set hb with h1 | rfl
    · exact h b h1
    · exact h m (List.mem_of_getElem? hm)
  · exact h b hb
set_option maxHeartbeats 4000000 in
set_option maxRecDepth 100000 in
theorem takeFrom_c (p : Post) (t : ByteArray) (n : Int) (v1 : Value) (w : World) (h1 : SliceK boxD w v1 p.boxes) (ht : okPost p) :
    Calls Try.prog 15 #[.agg #[.int .i64 p.limit, v1], .string t, .int .i64 n] w (RetTk w (tkV p t n) (tkVL p t n) (tkVM p t n) (tkOk p t n)) := by
  obtain ⟨A1, c1, rfl⟩ := h1.shape
  have H1 := hide h1
  have HT := hide ht
  clear h1 ht
  obtain ⟨W0, hW0⟩ : ∃ V, V = (((w.alloc (.cells #[.int .i64 p.limit, .slice A1 p.boxes.length c1] 28)).alloc (.cells #[.string t] 9)).alloc (.cells #[.int .i64 n] 2)).alloc (.cells #[.int .i64 0, .slice none 0 0] 28) := ⟨_, rfl⟩
  have HS0 := hide (show St w W0 [blk (w.heap.size + 1 + 1 + 1) #[.int .i64 0, .slice none 0 0] 28, blk (w.heap.size + 1 + 1) #[.int .i64 n] 2, blk (w.heap.size + 1) #[.string t] 9, blk w.heap.size #[.int .i64 p.limit, .slice A1 p.boxes.length c1] 28] by rw [hW0]; (repeat (first | (with_reducible exact St.start w) | (with_reducible apply St.alloc) | (with_reducible apply St.set0) | (with_reducible apply St.set1) | (with_reducible apply St.set2) | (with_reducible apply St.set3) | (with_reducible apply St.drew) | (with_reducible apply St.drewN))); all_goals (try (first | rfl | (simp; done))))
  have hE0 := (St.at2 HS0.out).c1
  have hE1 := (St.at1 HS0.out).c1
  have HTU := hide (takeFrom1_c t n W0 (b3 := W0.heap.size + 1) (b4 := W0.heap.size + 1 + 1) (z := W0.heap.size) hE0 hE1)
  obtain ⟨z0, z1⟩ := (St.at3 HS0.out).c2
  have hzz := (St.at3 HS0.out).lt
  obtain ⟨r0, r1⟩ := (St.at0 HS0.out).c2
  have rf := (St.at0 HS0.out).frozen
  have rz := (St.at0 HS0.out).lt
  have eg := enters_of Try.func39 (by kernel_rfl) rfl
  have hsz : w.heap.size + 1 + 1 + 1 + 1 = W0.heap.size := by rw [hW0]; simp
  have hz1 : w.heap.size < W0.heap.size + 1 := by omega
  have hz2 : w.heap.size < W0.heap.size + 1 + 1 := by omega
  have hn0 : ¬ w.heap.size = W0.heap.size := by omega
  have hn1 : ¬ w.heap.size = W0.heap.size + 1 := by omega
  have hn2 : ¬ w.heap.size = W0.heap.size + 1 + 1 := by omega
  go_enter Try.func15, Try.ntmps15
  go_wp2_with fail
  rw [← hW0]
  clear hW0
  by_cases hok : tkOk p t n = true
  · have HOK := hide hok
    have HP := hide (show tkV p t n = (tkF t n p).1 by unfold tkV; exact chP_yes hok)
    have HL := hide (show tkVL p t n = tkL t n p by unfold tkVL; rw [if_pos hok])
    have HM := hide (show tkVM p t n = tkM t p by unfold tkVM; rw [if_pos hok])
    clear hok
    go_wp2_with (
      (go_at_call 30
       refine Calls.mono (changedPost_c _ _ (tkF t n) p _ W0 _ _ _ (St.drop2 (show St W0 _ (blk (W0.heap.size + 1 + 1) #[.int .i64 0] 2 :: blk (W0.heap.size + 1) #[.slice (some ⟨W0.heap.size, 0, none⟩) 0 0] 35 :: [blk W0.heap.size #[] 68]) from by (repeat (first | (with_reducible exact St.start W0) | (with_reducible apply St.alloc) | (with_reducible apply St.set0) | (with_reducible apply St.set1) | (with_reducible apply St.set2) | (with_reducible apply St.set3) | (with_reducible apply St.drew) | (with_reducible apply St.drewN))); all_goals (try (first | rfl | (simp; done))))).pull1 ((H1.out.below HS0.out.below).below (St.below (show St W0 _ (blk (W0.heap.size + 1 + 1) #[.int .i64 0] 2 :: blk (W0.heap.size + 1) #[.slice (some ⟨W0.heap.size, 0, none⟩) 0 0] 35 :: [blk W0.heap.size #[] 68]) from by (repeat (first | (with_reducible exact St.start W0) | (with_reducible apply St.alloc) | (with_reducible apply St.set0) | (with_reducible apply St.set1) | (with_reducible apply St.set2) | (with_reducible apply St.set3) | (with_reducible apply St.drew) | (with_reducible apply St.drewN))); all_goals (try (first | rfl | (simp; done)))))) HT.out eg HTU.out (fun _ => tk_ok HT.out)) ?_
       rintro e w1 ⟨cs, F, X', rfl, hS, hyes⟩
       rw [show chpOk p (tkF t n) = true from HOK.out]
       obtain ⟨X2, L2, rfl, A5, c5, F5, rfl⟩ := hyes HOK.out
       obtain ⟨u1, hcs, k1⟩ := post_K (postD.M_K hS.head)
       subst hcs
       obtain ⟨G1, g1, rfl⟩ := k1.shape
       have hS2 := St.over HS0.out (St.left (M := [_, _, _, _]) (show St W0 w1 ([_, _, _, _] ++ L2) from hS.rot))
       have HS2 := hide hS2
       have HLE := hide hS.size
       clear z0 z1 hzz r0 r1 rf rz hz1 hz2 hn0 hn1 hn2 hS hS2 k1
       have yb := HS2.out.drop
       have y3 := yb.at0.c1
       have y3z := yb.at0.lt
       have y4 := yb.at1.c1
       have y4z := yb.at1.lt
       obtain ⟨r0, r1⟩ := (St.at3 yb).c2
       have rf := (St.at3 yb).frozen
       have rz := (St.at3 yb).lt
       clear yb))
    obtain ⟨Wr, hWr⟩ : ∃ V, V = w1.alloc (.cells #[.int .i64 (chP p (tkF t n)).limit, .slice G1 (chP p (tkF t n)).boxes.length g1] 28) := ⟨_, rfl⟩
    have HS3 := hide (show St w Wr (blk w1.heap.size #[.int .i64 (chP p (tkF t n)).limit, .slice G1 (chP p (tkF t n)).boxes.length g1] 28 :: ownD postD (chP p (tkF t n)) [.int .i64 (chP p (tkF t n)).limit, .slice G1 (chP p (tkF t n)).boxes.length g1] F :: blk (W0.heap.size + 1) #[.slice A5 (tkL t n p).length c5] 35 :: blk (W0.heap.size + 1 + 1) #[.int .i64 (tkM t p)] 2 :: own parcelD 68 (.slice A5 (tkL t n p).length c5) (tkL t n p) F5 :: [blk (w.heap.size + 1 + 1 + 1) #[.int .i64 0, .slice none 0 0] 28, blk (w.heap.size + 1 + 1) #[.int .i64 n] 2, blk (w.heap.size + 1) #[.string t] 9, blk w.heap.size #[.int .i64 p.limit, .slice A1 p.boxes.length c1] 28]) by rw [hWr]; exact HS2.out.alloc rfl)
    rw [← hWr]
    clear hWr y3 y3z y4 y4z r0 r1 rf rz
    obtain ⟨u0, u1⟩ := HS3.out.at0.c2
    have uz := HS3.out.at0.lt
    have y3 := HS3.out.at2.c1
    have y3z := HS3.out.at2.lt
    have y4 := HS3.out.at3.c1
    have y4z := HS3.out.at3.lt
    have yb := HS3.out.drop.drop
    obtain ⟨r0, r1⟩ := (St.at3 yb).c2
    have rf := (St.at3 yb).frozen
    have rz := (St.at3 yb).lt
    have hne1 : ¬ w.heap.size + 1 + 1 + 1 = W0.heap.size + 1 := by omega
    have hne2 : ¬ W0.heap.size + 1 = w.heap.size + 1 + 1 + 1 := by omega
    have hne3 : ¬ w.heap.size + 1 + 1 + 1 = W0.heap.size + 1 + 1 := by omega
    have hne4 : ¬ W0.heap.size + 1 + 1 = w.heap.size + 1 + 1 + 1 := by omega
    have hle : W0.heap.size ≤ w1.heap.size := HLE.out
    have hne5 : ¬ w1.heap.size = w.heap.size + 1 + 1 + 1 := by omega
    have hne6 : ¬ w.heap.size + 1 + 1 + 1 = w1.heap.size := by omega
    clear yb hle
    go_region
    all_goals
      go_wp2_with fail
      refine bodyPost_ret (v := .tuple #[.agg #[.int .i64 (chP p (tkF t n)).limit, .slice G1 (chP p (tkF t n)).boxes.length g1], .slice A5 (tkL t n p).length c5, .int .i64 (tkM t p), .bool true]) (by simp [results, Try.results15, go_sem, r0, r1, rf, rz]) rfl ?_
      rw [HL.out, HM.out, HOK.out]
      exact ⟨_, F, _, F5, rfl, St.left (M := [_, _]) (show St w _ (ownD postD (chP p (tkF t n)) [.int .i64 (chP p (tkF t n)).limit, .slice G1 (chP p (tkF t n)).boxes.length g1] F :: own parcelD 68 (.slice A5 (tkL t n p).length c5) (tkL t n p) F5 :: blk (w.heap.size + 1 + 1 + 1) #[.int .i64 (chP p (tkF t n)).limit, .slice G1 (chP p (tkF t n)).boxes.length g1] 28 :: _ :: _ :: [_]) from by (repeat (first | (with_reducible exact (HS3.out.drop.drop1.drop1)) | (with_reducible apply St.alloc) | (with_reducible apply St.set0) | (with_reducible apply St.set1) | (with_reducible apply St.set2) | (with_reducible apply St.set3) | (with_reducible apply St.drew) | (with_reducible apply St.drewN))); all_goals (try (first | rfl | (simp; done))))⟩
  · have HOK := hide (show tkOk p t n = false by simpa using hok)
    have HP := hide (show tkV p t n = noPost by unfold tkV; exact chP_no HOK.out)
    have HL := hide (show tkVL p t n = [] by unfold tkVL; rw [HOK.out]; rfl)
    have HM := hide (show tkVM p t n = 0 by unfold tkVM; rw [HOK.out]; rfl)
    clear hok
    go_wp2_with (
      (go_at_call 30
       refine Calls.mono (changedPost_c _ _ (tkF t n) p _ W0 _ _ _ (St.drop2 (show St W0 _ (blk (W0.heap.size + 1 + 1) #[.int .i64 0] 2 :: blk (W0.heap.size + 1) #[.slice (some ⟨W0.heap.size, 0, none⟩) 0 0] 35 :: [blk W0.heap.size #[] 68]) from by (repeat (first | (with_reducible exact St.start W0) | (with_reducible apply St.alloc) | (with_reducible apply St.set0) | (with_reducible apply St.set1) | (with_reducible apply St.set2) | (with_reducible apply St.set3) | (with_reducible apply St.drew) | (with_reducible apply St.drewN))); all_goals (try (first | rfl | (simp; done))))).pull1 ((H1.out.below HS0.out.below).below (St.below (show St W0 _ (blk (W0.heap.size + 1 + 1) #[.int .i64 0] 2 :: blk (W0.heap.size + 1) #[.slice (some ⟨W0.heap.size, 0, none⟩) 0 0] 35 :: [blk W0.heap.size #[] 68]) from by (repeat (first | (with_reducible exact St.start W0) | (with_reducible apply St.alloc) | (with_reducible apply St.set0) | (with_reducible apply St.set1) | (with_reducible apply St.set2) | (with_reducible apply St.set3) | (with_reducible apply St.drew) | (with_reducible apply St.drewN))); all_goals (try (first | rfl | (simp; done)))))) HT.out eg HTU.out (fun _ => tk_ok HT.out)) ?_
       rintro e w1 ⟨cs, F, X', rfl, hS, -⟩
       rw [show chpOk p (tkF t n) = false from HOK.out]
       obtain ⟨u1, hcs, k1⟩ := post_K (postD.M_K hS.head)
       subst hcs
       obtain ⟨G1, g1, rfl⟩ := k1.shape
       have hS2 := St.over HS0.out (St.left (M := [_]) (show St W0 w1 ([_] ++ X') from hS))
       have HS2 := hide hS2
       clear z0 z1 hzz r0 r1 rf rz hz1 hz2 hn0 hn1 hn2 hS hS2 k1
       obtain ⟨r0, r1⟩ := (St.at1 HS2.out).c2
       have rf := (St.at1 HS2.out).frozen
       have rz := (St.at1 HS2.out).lt))
    refine bodyPost_ret (v := .tuple #[.agg #[.int .i64 0, .slice none 0 0], .slice none 0 0, .int .i64 0, .bool false]) (by simp [results, Try.results15, go_sem, r0, r1, rf, rz]) rfl ?_
    rw [HP.out, HL.out, HM.out, HOK.out]
    exact ⟨[.int .i64 0, .slice none 0 0], [], _, [], rfl, St.left (M := [_, _]) (St.noPost (St.nil (show St w _ (blk w1.heap.size #[.int .i64 (chP p (tkF t n)).limit, .slice G1 (chP p (tkF t n)).boxes.length g1] 28 :: blk (w.heap.size + 1 + 1 + 1) #[.int .i64 0, .slice none 0 0] 28 :: _ :: _ :: [_]) from by (repeat (first | (with_reducible exact HS2.out.drop) | (with_reducible apply St.alloc) | (with_reducible apply St.set0) | (with_reducible apply St.set1) | (with_reducible apply St.set2) | (with_reducible apply St.set3) | (with_reducible apply St.drew) | (with_reducible apply St.drewN))); all_goals (try (first | rfl | (simp; done))))))⟩
end Go.Proofs.Ytdmhjfajicclaaa
