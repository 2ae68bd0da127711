import Derived.Test.Qxb6500877aGreatDoorWr
set_option linter.unusedVariables false
set_option linter.unusedSimpArgs false
namespace Go.Proofs.Qxb6500877aGreatDoor
open Go.RowKit

theorem snoc_ind {P : List Nat → Prop} (nil : P []) (snoc : ∀ l y, P l → P (l ++ [y])) (l : List Nat) : P l := by
  have : ∀ n (l : List Nat), l.length = n → P l := by
    intro n
    induction n with
    | zero => intro l h; rw [List.length_eq_zero_iff.1 h]; exact nil
    | succ n ih =>
      intro l h
      rcases list_end l with rfl | ⟨A, q, rfl⟩
      · simp at h
      · exact snoc A q (ih A (by simp at h; omega))
  exact this _ l rfl
theorem markL_eq (s : Wheel) : ∀ (l : List Nat), (∀ x, ((markL s l).nd x).lv = if x ∈ l then -3 else (s.nd x).lv) ∧ (∀ x, ((markL s l).nd x).sl = if x ∈ l then 0 else (s.nd x).sl) ∧ (markL s l).lh = s.lh ∧ (markL s l).lt = s.lt ∧ (markL s l).occ = s.occ ∧ (markL s l).now = s.now ∧ (markL s l).free = s.free ∧ (markL s l).live = s.live ∧ (markL s l).nid = s.nid ∧ (markL s l).mb = s.mb := by
  intro l
  induction l using snoc_ind with
  | nil => simp [markL]
  | snoc l y ih =>
    obtain ⟨h1, h2, h3, h4, h5, h6, h7, h8, h9, h10⟩ := ih
    rw [markL_snoc]
    refine ⟨fun x => ?_, fun x => ?_, h3, h4, h5, h6, h7, h8, h9, h10⟩
    · simp only [inHand, Wheel.nLv, Wheel.nSl, nd_set]
      by_cases e : x = y
      · subst e; simp
      · simp [e, h1 x]
    · simp only [inHand, Wheel.nLv, Wheel.nSl, nd_set]
      by_cases e : x = y
      · subst e; simp
      · simp [e, h2 x]
def taken (s : Wheel) (r : Option (Nat × Nat)) (l : List Nat) (o : Nat → Int) : Wheel := { ((markL s l).setLh r (-1)).setLt r (-1) with occ := o }
theorem take_inv {s : Wheel} {L : Option (Nat × Nat) → List Nat} {fr : List Nat} {f : Int → Option Int} {r : Option (Nat × Nat)} {o : Nat → Int} (I : WInv s L fr f []) (hr : lOk r) (ho : ∀ k, k < 11 → ∃ m : Nat, o k = m ∧ m < 18446744073709551616 ∧ ∀ z, z < 64 → (m.testBit z = true ↔ putL L r [] (some (k, z)) ≠ [])) :
    WInv (taken s r (L r) o) (putL L r []) fr f (L r) := by
  obtain ⟨h1, h2, h3, h4, h5, h6, h7, h8, h9, h10⟩ := markL_eq s (L r)
  have hk := markL_nd s (L r)
  have hnd : (taken s r (L r) o).nd = (markL s (L r)).nd := rfl
  have hfar : ∀ q, q ≠ r → ∀ x ∈ L q, x ∉ L r := fun q hq x hx h => hq (I.apart hx h)
  have hff : ∀ x ∈ fr, x ∉ L r := fun x hx => I.notin (by rw [I.frl x hx]; omega) r
  refine ⟨fun q hq => ?_, fun q => ?_, fun q x hx => ?_, fun x hx => ?_, I.nod r, ?_, fun x hx => ?_, I.frn, by show (markL s (L r)).live = _; rw [h8]; exact I.live, fun id j hj => ?_, fun x hx => ?_, fun x hx => ?_, fun x hx => ?_, ho, by show ∃ n : Nat, (markL s (L r)).now = n ∧ _; rw [h6]; exact I.now, fun k z x hx d n hd hn => ?_, by show 0 ≤ (markL s (L r)).nid ∧ (markL s (L r)).nid < _; rw [h9]; exact I.nid⟩
  · by_cases e : q = r
    · subst e
      rw [putL_same]
      refine ⟨?_, ?_⟩
      · simp [taken, Wheel.setLh, Wheel.setLt]
      · simp [taken, Wheel.setLh, Wheel.setLt]
    · rw [putL_other _ _ e]
      have e1 : (taken s r (L r) o).lh q = s.lh q := by simp [taken, Wheel.setLh, Wheel.setLt, e, h3]
      have e2 : (taken s r (L r) o).lt q = s.lt q := by simp [taken, Wheel.setLh, Wheel.setLt, e, h4]
      rw [e1, e2, hnd]
      exact seg_congr _ _ _ _ _ (fun x hx => ⟨(hk x).2.1, (hk x).1⟩) (I.dll q hq)
  · by_cases e : q = r
    · subst e; rw [putL_same]; exact List.nodup_nil
    · rw [putL_other _ _ e]; exact I.nod q
  · rcases mem_putL hx with ⟨e, hx2⟩ | ⟨e, hx2⟩
    · simp at hx2
    · rw [hnd, h1 x, h2 x, if_neg (hfar q e x hx2), if_neg (hfar q e x hx2)]
      exact I.mem q x hx2
  · rw [hnd, h1 x, if_pos hx]
    exact ⟨(I.mem r x hx).2.1, rfl⟩
  · show NC _ (markL s (L r)).free fr
    rw [h7]
    exact NC_congr _ _ (fun x hx => by rw [hnd]; exact (hk x).1) I.fre
  · rw [hnd, h1 x, if_neg (hff x hx)]
    exact I.frl x hx
  · obtain ⟨x, a, b, c, d⟩ := I.map id j hj
    refine ⟨x, a, b, by rw [hnd, (hk x).2.2.2.1]; exact c, ?_⟩
    rcases d with d | ⟨q, d⟩
    · simp at d
    · by_cases e : q = r
      · exact .inl (e ▸ d)
      · exact .inr ⟨q, by rw [putL_other _ _ e]; exact d⟩
  · rw [hnd, (hk x).2.2.2.1]; exact I.ids x hx
  · rw [hnd, (hk x).2.2.1]; exact I.dls x hx
  · rw [hnd, (hk x).2.2.2.2.1]; exact I.cos x hx
  · rw [hnd, (hk x).2.2.1] at hd
    have hn' : s.now = n := by rw [← h6]; exact hn
    rcases mem_putL hx with ⟨e, hx2⟩ | ⟨e, hx2⟩
    · simp at hx2
    · exact I.dig k z x hx2 d n hd hn'

/-- Where the rows of a list, taken in hand, are being given out: ys are done, xs are not. -/
structure OpenSt (w : World) (B n base k : Nat) (s0 : Wheel) (a : Nat) (all ys xs : List Nat) (vi : Int) (s : Wheel) (L : Option (Nat × Nat) → List Nat) (fr : List Nat) (f : Int → Option Int) (l : List FiredS) (v : Value) (wr : World) : Prop where
  sp : all = ys ++ xs
  nc : NC s vi xs
  T : TimersAt wr B n s f
  I : WInv s L fr f xs
  F : FiredAt wr base v l
  M : Mut3 B 1 1939 s0.mb base w wr
  mb : s.mb = s0.mb
  now : s.now = s0.now
  len : l.length + a = fr.length
  co : ∀ e ∈ l, 0 ≤ e.core ∧ e.core < 4
  dl : ∀ y ∈ xs, (s.nd y).dl = (s0.nd y).dl
  lo : ∀ y, y ∉ all → (s.nd y).lv = (s0.nd y).lv
  lv : ∀ y ∈ ys, (s.nd y).lv < k
  hb : base ≤ wr.heap.size

theorem OpenSt.expired {w wr w' : World} {B n base k a : Nat} {s0 s : Wheel} {all ys xs : List Nat} {vi : Int} {L : Option (Nat × Nat) → List Nat} {fr : List Nat} {f : Int → Option Int} {l : List FiredS} {v v' : Value} {x : Nat} {t : Int}
    (R : OpenSt w B n base k s0 a all ys (x :: xs) vi s L fr f l v wr) (T : TimersAt w' B n (retireF s x) (forget f (s.nd x).id)) (F : FiredAt w' base v' (l ++ [firedOf s x t])) (M : Mut3 B 1 1939 s.mb base wr w') :
    OpenSt w B n base k s0 a all (ys ++ [x]) xs (s.nd x).nx (retireF s x) L (x :: fr) (forget f (s.nd x).id) (l ++ [firedOf s x t]) v' w' := by
  have hne : ∀ {y : Nat}, y ≠ x → (retireF s x).nd y = s.nd y := fun {y} h => by simp [retireF, Wheel.pFree, Wheel.pLive, Wheel.setNd, h]
  have hself : (retireF s x).nd x = freeNode s.free := by simp [retireF, Wheel.pFree, Wheel.pLive, Wheel.setNd]
  have hx : x ∉ xs := (List.nodup_cons.1 R.I.hnod).1
  have hxs : ∀ y ∈ xs, y ≠ x := fun y hy e => hx (e ▸ hy)
  obtain ⟨h1, h2⟩ := R.I.hnd x (by simp)
  rw [R.mb] at M
  refine ⟨by rw [R.sp]; simp, NC_congr _ _ (fun y hy => by rw [hne (hxs y hy)]) R.nc.2.2, T, retire_inv R.I, F, R.M.trans M, R.mb, R.now, ?_, fun e he => ?_, fun y hy => ?_, fun y hy => ?_, fun y hy => ?_, Nat.le_trans R.hb M.size⟩
  · have := R.len
    simp
    omega
  · rcases List.mem_append.1 he with he | he
    · exact R.co e he
    · simp at he
      subst he
      exact R.I.cos x h1
  · rw [hne (hxs y hy)]
    exact R.dl y (by simp [hy])
  · have hyx : y ≠ x := fun e => hy (by rw [R.sp, e]; simp)
    rw [hne hyx]
    exact R.lo y hy
  · by_cases e : y = x
    · rw [e, hself]
      show (-2 : Int) < k
      omega
    · rw [hne e]
      rcases List.mem_append.1 hy with hy | hy
      · exact R.lv y hy
      · exact absurd (by simpa using hy) e
theorem links_set (s : Wheel) (x : Nat) (a b : Int) : (s.nPv x a).nNx x b = s.setNd x { s.nd x with pv := a, nx := b } := by
  simp only [Wheel.nPv, Wheel.nNx, setNd_set]
  simp [Wheel.setNd]
theorem OpenSt.placed {w wr w1 w' : World} {B n base k a : Nat} {s0 s s' : Wheel} {all ys xs : List Nat} {vi : Int} {L L' : Option (Nat × Nat) → List Nat} {fr : List Nat} {f : Int → Option Int} {l : List FiredS} {v : Value} {x : Nat} {r : Option (Nat × Nat)} {A C : List Nat}
    (R : OpenSt w B n base k s0 a all ys (x :: xs) vi s L fr f l v wr) (M1 : Mut B 1 1939 wr w') (eL : L r = A ++ C) (E : InsEff ((s.nPv x (-1)).nNx x (-1)) s' r x A C (lvOf r) (slOf r)) (hlt : lvOf r < k) (I' : WInv s' L' fr f xs) (T' : TimersAt w' B n s' f) (hB : B < base) :
    OpenSt w B n base k s0 a all (ys ++ [x]) xs (s.nd x).nx s' L' fr f l v w' := by
  have hx : x ∉ xs := (List.nodup_cons.1 R.I.hnod).1
  have hxs : ∀ y ∈ xs, y ≠ x := fun y hy e => hx (e ▸ hy)
  obtain ⟨h1, h2⟩ := R.I.hnd x (by simp)
  have hs1 : ∀ {y : Nat}, y ≠ x → ((s.nPv x (-1)).nNx x (-1)).nd y = s.nd y := fun {y} h => by rw [links_set]; simp [Wheel.setNd, h]
  have hxn : ∀ y ∈ xs, s'.nd y = s.nd y := fun y hy => by
    rw [E.far (hxs y hy) (by rw [← eL]; exact R.I.notin (by have := (R.I.hnd y (by simp [hy])).2; omega) r), hs1 (hxs y hy)]
  have M : Mut3 B 1 1939 s0.mb base wr w' := M1.to3 R.hb
  refine ⟨by rw [R.sp]; simp, NC_congr _ _ (fun y hy => by rw [hxn y hy]) R.nc.2.2, T', I', R.F.mut M1 hB, R.M.trans M, by rw [E.mb]; exact R.mb, by rw [E.now]; exact R.now, R.len, R.co, fun y hy => ?_, fun y hy => ?_, fun y hy => ?_, Nat.le_trans R.hb M.size⟩
  · rw [hxn y hy]
    exact R.dl y (by simp [hy])
  · have hyx : y ≠ x := fun e => hy (by rw [R.sp, e]; simp)
    rw [(E.lvl hyx).1, hs1 hyx]
    exact R.lo y hy
  · by_cases e : y = x
    · rw [e, E.nd x, if_pos rfl]
      exact hlt
    · rw [(E.lvl e).1, hs1 e]
      rcases List.mem_append.1 hy with hy | hy
      · exact R.lv y hy
      · exact absurd (by simpa using hy) e
theorem OpenSt.start {w w' : World} {B n base k a : Nat} {s : Wheel} {L : Option (Nat × Nat) → List Nat} {fr : List Nat} {f : Int → Option Int} {l : List FiredS} {v : Value} {r : Option (Nat × Nat)} {o : Nat → Int} (T : TimersAt w B n s f) (I : WInv s L fr f []) (hr : lOk r) (F : FiredAt w base v l) (hl : l.length + a = fr.length) (hco : ∀ e ∈ l, 0 ≤ e.core ∧ e.core < 4)
    (hB : B < base) (hb : base ≤ w.heap.size) (M : Mut B 1 1939 w w') (H : WheelAt w' B (taken s r (L r) o)) (ho : ∀ k, k < 11 → ∃ m : Nat, o k = m ∧ m < 18446744073709551616 ∧ ∀ z, z < 64 → (m.testBit z = true ↔ putL L r [] (some (k, z)) ≠ [])) :
    OpenSt w B n base k s a (L r) [] (L r) (s.lh r) (taken s r (L r) o) (putL L r []) fr f l v w' := by
  obtain ⟨h1, h2, h3, h4, h5, h6, h7, h8, h9, h10⟩ := markL_eq s (L r)
  have hk := markL_nd s (L r)
  have hnd : (taken s r (L r) o).nd = (markL s (L r)).nd := rfl
  have emb : (taken s r (L r) o).mb = s.mb := h10
  have M' : Mut3 B 1 1939 s.mb base w w' := M.to3 hb
  refine ⟨by simp, NC_congr _ _ (fun x _ => by rw [hnd]; exact (hk x).1) (seg_nc _ _ _ _ (I.dll r hr)), ⟨H, ?_, by rw [emb]; exact T.ne⟩, take_inv I hr ho, F.mut M hB, M', emb, h6, hl, hco, fun y _ => by rw [hnd, (hk y).2.2.1], fun y hy => by rw [hnd, h1 y, if_neg hy], fun y hy => by simp at hy, Nat.le_trans hb M'.size⟩
  rw [emb]
  exact T.mp.mut M T.ne

end Go.Proofs.Qxb6500877aGreatDoor
