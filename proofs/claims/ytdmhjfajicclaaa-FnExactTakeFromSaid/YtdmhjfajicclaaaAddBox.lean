/- A box is added: the program. -/
import Derived.Test.YtdmhjfajicclaaaDropSpec
import Derived.Test.YtdmhjfajicclaaaInsPost
import Derived.Deep.RegionWith
namespace Go.Proofs.Ytdmhjfajicclaaa
open Go Go.RowKit Go.BigFrame
set_option linter.unusedVariables false
set_option linter.unusedSimpArgs false

def newB (t : ByteArray) (n : Int) : Box := ⟨t, n, 0, []⟩
def lbI (t : ByteArray) (xs : List Box) : Nat := xs.findIdx fun b => !txLt b.token t
def insB (t : ByteArray) (n : Int) (xs : List Box) : List Box := xs.take (lbI t xs) ++ newB t n :: xs.drop (lbI t xs)
def addF (t : ByteArray) (n : Int) (p : Post) : Post × Bool := ({ p with boxes := insB t n p.boxes }, !hasT Box.token p.boxes t)
def addOk (p : Post) (t : ByteArray) (n : Int) : Bool := chpOk p (addF t n)
def addV (p : Post) (t : ByteArray) (n : Int) : Post := chP p (addF t n)
theorem lb_is {xs : List Box} {t : ByteArray} (hr : RisesT Box.token xs) : isLbT Box.token xs t (lbI t xs) := by
  refine ⟨List.findIdx_le_length, fun s y hs hy => ?_, fun s y hs hy => ?_⟩
  · obtain ⟨hl, rfl⟩ := List.getElem?_eq_some_iff.1 hy
    have := List.not_of_lt_findIdx hs
    simpa using this
  · have hl := (List.getElem?_eq_some_iff.1 hy).1
    have hlt : lbI t xs < xs.length := by omega
    have h1 : (!txLt xs[lbI t xs].token t) = true := List.findIdx_getElem (p := fun b : Box => !txLt b.token t) (w := hlt)
    have h2 : txLt xs[lbI t xs].token t = false := by simpa using h1
    by_cases e : s = lbI t xs
    · subst e
      rw [List.getElem?_eq_getElem hlt] at hy
      cases hy; exact h2
    · exact lb_le (hr (lbI t xs) s _ y (by omega) (List.getElem?_eq_getElem hlt) hy) h2
theorem lb_uniq {xs : List Box} {t : ByteArray} {i j : Nat} (h : isLbT Box.token xs t i) (h2 : isLbT Box.token xs t j) : i = j := by
  rcases Nat.lt_trichotomy i j with h3 | h3 | h3
  · obtain ⟨x, hx⟩ : ∃ x, xs[i]? = some x := ⟨_, List.getElem?_eq_getElem (by have := h2.1; omega)⟩
    have a := h.2.2 i x (Nat.le_refl _) hx
    rw [h2.2.1 i x h3 hx] at a; cases a
  · exact h3
  · obtain ⟨x, hx⟩ : ∃ x, xs[j]? = some x := ⟨_, List.getElem?_eq_getElem (by have := h.1; omega)⟩
    have a := h2.2.2 j x (Nat.le_refl _) hx
    rw [h.2.1 j x h3 hx] at a; cases a
theorem lbI_le (t : ByteArray) (xs : List Box) : lbI t xs ≤ xs.length := List.findIdx_le_length
/-- One box more, in the memory. -/
theorem St.boxIns {w0 w : World} {L : List Piece} {xs : List Box} {rs : List (Raw 4)} {Fs : List (List Nat)} {i : Nat} {x : Box} {A : Option Addr} {c : Nat} {G : List Nat} (h : St w0 w (own parcelD 68 (.slice A x.held.length c) x.held G :: heldsP boxD xs rs Fs :: L)) :
    ∃ Fs', St w0 w (heldsP boxD (xs.take i ++ x :: xs.drop i) (rs.take i ++ boxRaw x A x.held.length c :: rs.drop i) Fs' :: L) := by
  have hl : rs.length = xs.length := h.drop.boxLen
  have h5 : (rs.take i).length = (xs.take i).length := by rw [List.length_take, List.length_take, hl]
  have h2 : St w0 w (ownD boxD x (boxRaw x A x.held.length c).val G :: heldsP boxD (xs.take i ++ xs.drop i) (rs.take i ++ rs.drop i) Fs :: L) := by
    rw [List.take_append_drop, List.take_append_drop]; exact h.boxIn
  exact St.heldIns (d := boxD) h2 h5
set_option maxHeartbeats 8000000 in
set_option maxRecDepth 100000 in
theorem addBox1_c (t : ByteArray) (n : Int) (w : World) {b1 b2 : Nat} (h1 : w.cell? ⟨b1, 0, none⟩ = some (.string t)) (h2 : w.cell? ⟨b2, 0, none⟩ = some (.int .i64 n)) :
    TurnsX Try.prog postD 28 51 #[.pointer (some ⟨b1, 0, none⟩), .pointer (some ⟨b2, 0, none⟩)] (fun r => validPostB r = true) (addF t n) w [] (fun _ X => X = []) := by
  intro x b F W L hS hv
  replace hS : St w W (boxP postD 28 b x F :: L) := hS
  show Calls Try.prog 51 #[.pointer (some ⟨b, 0, none⟩), .pointer (some ⟨b1, 0, none⟩), .pointer (some ⟨b2, 0, none⟩)] W _
  have hcap := cell_below hS.below h1
  have hcz := World.block_lt_of_cell? W _ hcap
  have hcap2 := cell_below hS.below h2
  have hcz2 := World.block_lt_of_cell? W _ hcap2
  simp only [] at hcz hcz2
  have HS := hide hS
  have HV := hide hv
  have hlen := (fewP_of hv).1
  have HR := hide (rises_valid hv)
  have HC1 := hide h1
  have HC2 := hide h2
  clear hS hv h1 h2
  obtain ⟨is, HI⟩ : ∃ is, Hid (hasT Box.token x.boxes t = is) := ⟨_, hide rfl⟩
  have HOK := hide (show (addF t n x).2 = !is from by rw [← HI.out]; rfl)
  go_enter Try.func51, Try.ntmps51
  go_wp2_with (
    (go_at_call 32
     refine (postAt_c x b 0 t _ HS.out.boxRow HV.out).mono ?_
     rintro e w1 ⟨⟨i, hlb, rfl⟩, hb⟩
     rw [HI.out]
     have HLB := hide hlb
     have hib := hlb.1
     have hw1 : IntKind.i64.wrap ((i : Int) + 1) = (i : Int) + 1 := IntWalk.i64_in _ (by omega)
     obtain ⟨A, c, rs, F1, Fs, hrl, hO⟩ := (HS.out.by hb).postOpen
     have HO := hide hO
     have HRL := hide hrl
     have hcap := cell_below hb hcap
     have HBW := hide hb
     (try clear x0 x1 xf xz)
     obtain ⟨x0, x1⟩ := hO.at0.c2
     have xf := hO.at0.frozen
     have xz := hO.at0.lt
     clear hlb hb hO hrl))
  replace hcap2 := cell_below (show Below W.heap.size W w1 from HBW.out) hcap2
  have hz1 : b1 < w1.heap.size := World.block_lt_of_cell? w1 _ hcap
  have hz2 : b2 < w1.heap.size := World.block_lt_of_cell? w1 _ hcap2
  go_region_with (
    (go_at_call 52
     have hrl := HRL.out
     have hD := insBox_c i rs A c F1 w _ (blk b #[.int .i64 x.limit, .slice A x.boxes.length c] 28 :: heldsP boxD x.boxes rs Fs :: L) w1.heap.size (boxRaw (newB t n) none 0 0) (by rw [hrl]; exact ((HO.out.alloc (k := w1.heap.size) (arr := #[.string t, .int .i64 n, .int .i64 0, .slice none 0 0]) (e := 53) rfl).drew).pull2.pull1) (by omega) (by omega)
     rw [hrl] at hD
     obtain ⟨ns, hns⟩ : ∃ ns, ns = rs.take i ++ boxRaw (newB t n) none 0 0 :: rs.drop i := ⟨_, rfl⟩
     rw [← hns] at hD
     have HNS := hide hns
     refine hD.mono ?_
     rintro e w2 ⟨A2, c2, F2, rfl, hS2⟩
     have HS2 := hide hS2
     obtain ⟨q0, q1⟩ := (St.at1 hS2).c2
     have qf := (St.at1 hS2).frozen
     have qz := (St.at1 hS2).lt
     have hq1 := cell_below hS2.below HC1.out
     have hq2 := cell_below hS2.below HC2.out
     clear hrl hD hS2 hns))
  all_goals
    go_wp2_with fail
    go_ret
    have key : ∀ W', St w W' (own (rawD 4) 53 (.slice A2 ns.length c2) ns F2 :: blk b #[.int .i64 x.limit, .slice A2 ns.length c2] 28 :: heldsP boxD x.boxes rs Fs :: L) →
        ∃ A X', St w W' (A :: (X' ++ L)) ∧ ((addF t n x).2 = true → (∃ F', A = boxP postD 28 b (addF t n x).1 F') ∧ X' = []) := by
      intro W' h3
      obtain ⟨Fs5, h4⟩ := St.boxIns (i := i) (x := newB t n) (A := none) (c := 0) (G := []) (St.nil h3.pull2)
      have hns := HNS.out
      subst hns
      have hlb : i = lbI t x.boxes := lb_uniq HLB.out (lb_is HR.out)
      have h6 : St w W' (heldsP boxD (addF t n x).1.boxes (rs.take i ++ boxRaw (newB t n) none 0 0 :: rs.drop i) Fs5 :: own (rawD 4) 53 (.slice A2 (rs.take i ++ boxRaw (newB t n) none 0 0 :: rs.drop i).length c2) (rs.take i ++ boxRaw (newB t n) none 0 0 :: rs.drop i) F2 :: blk b #[.int .i64 x.limit, .slice A2 (rs.take i ++ boxRaw (newB t n) none 0 0 :: rs.drop i).length c2] 28 :: L) := by
        show St w W' (heldsP boxD (x.boxes.take (lbI t x.boxes) ++ newB t n :: x.boxes.drop (lbI t x.boxes)) _ _ :: _)
        rw [← hlb]; exact h4
      obtain ⟨P5, h5, F5, rfl⟩ := St.postShutP (p := (addF t n x).1) h6.push2.pull1
      exact ⟨_, [], h5, fun _ => ⟨⟨F5, rfl⟩, rfl⟩⟩
    exact ⟨by rw [HOK.out]; rfl, key _ (by (repeat (first | (with_reducible exact HS2.out) | (with_reducible apply St.alloc) | (with_reducible apply St.set0) | (with_reducible apply St.set1) | (with_reducible apply St.set2) | (with_reducible apply St.set3) | (with_reducible apply St.drew) | (with_reducible apply St.drewN))); all_goals (try (first | rfl | (simp; done))))⟩
end Go.Proofs.Ytdmhjfajicclaaa
