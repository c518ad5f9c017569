/- Texts Ends Good Ops Mem Row Agg More. -/
import Derived.Test.YtofmadjgbcopdaaGreatDoorJ01
import Derived.KernelRfl
set_option linter.defProp false
set_option linter.unusedSimpArgs false
set_option linter.unusedVariables false
set_option maxRecDepth 100000
set_option maxHeartbeats 2000000
section
namespace Go.X
open Go
open Go.Conc
open Go.ConcN (upd upd_same upd_ne)
section
variable {P : Program} {W : World} {γ : Gh} {H H' : Hp} {gs : Array Goroutine} {w w' : World} {t : Trace} {μ : List Rk} {ro : Ro} {bf : List Nat} {c cap : Nat} {L : List Value} {D : Nat -> Prop}
theorem FI.opn (h : FI P W .idle H gs w t μ ro bf) (hc : H c = some (true, .chan cap #[] false 0 0 false)) (hD : ∀ b, D b -> ∃ o, H b = some (true, o)) : FI P W (.busy c cap [] D) (H.del c) gs w t μ ro bf := by
 obtain ⟨hbf, hro⟩ := h.still
 have hnone : ∀ x, x ≠ 0 -> hps H ro x = none := fun x hx => by simp [hps, hx, hro x]
 have hd : ∀ x M, hps (H.del c) ro x = some M -> x = 0 /\ M = H.del c := fun x M hM => by
  by_cases hx : x = 0
  ·subst hx; cases hM; exact ⟨rfl, rfl⟩
  ·have := hnone x hx; simp [hps, hx] at hM this; rw [this] at hM; simp at hM
 have hdel : ∀ b q, (H.del c) b = some q -> H b = some q := fun b q hb => by
  unfold Hp.del at hb
  split at hb
  ·cases hb
  ·exact hb
 refine ⟨h.mates.less fun y M hM => ?_, h.size, fun i x hx => ?_, h.out, h.zero, h.over, h.base, fun x M b o hM hb => ?_, #[], 0, ?_⟩
 ·obtain ⟨rfl, rfl⟩ := hd y M hM
  exact ⟨H, rfl, fun b p o hb => ⟨p, hdel _ _ hb, id⟩⟩
 ·obtain ⟨ρ, h1, h2⟩ := h.oth i x hx
  rw [hro] at h2 ⊢
  exact ⟨ρ, h1, h2.any rfl _⟩
 ·obtain ⟨rfl, rfl⟩ := hd x M hM
  exact h.owns 0 H b o rfl (hdel _ _ hb)
 ·refine ⟨h.mates.sat 0 H rfl c true _ hc, fun x M hM => ?_, h.owns 0 H c _ rfl hc, ?_, by simp, by rw [hbf]; rfl, fun p j hp => by rw [hbf] at hp; simp at hp, fun b hb => let ⟨o, ho⟩ := hD b hb; h.owns 0 H b o rfl ho⟩
  ·obtain ⟨rfl, rfl⟩ := hd x M hM
   exact Hp.del_same _ _
  ·have : vals ro gs.size = [] := by
    cases hv : vals ro gs.size with
    | nil => rfl
    | cons x l =>
     obtain ⟨i, K, v, _, he⟩ := vals_some (ro := ro) (n := gs.size) (by rw [hv]; simp)
     rw [hro i] at he; cases he
   rw [this]; simp
theorem FI.lay {G : Hp} (h : FI P W (.busy c cap [] D) H gs w t μ ro bf) (hG : ∀ b p o, G b = some (p, o) -> ∃ p', H b = some (p', o) /\ (p = true -> p' = true ∨ D b)) : ∃ n, FI P W .idle (G.set c (.chan cap #[] false n n false)) gs w t μ ro [] := by
 obtain ⟨buf, r, hB⟩ := h.still
 have hp := hB.perm.length_eq
 simp at hp
 have hbuf : buf = #[] := Array.eq_empty_of_size_eq_zero (by omega)
 subst hbuf
 have hvals : vals ro gs.size = [] := List.eq_nil_of_length_eq_zero (by simpa using hp.symm)
 have hbf : bf = [] := List.eq_nil_of_length_eq_zero (by simpa using hB.len)
 have hro : ∀ i, ro i = none := fun i => by
  cases hr : ro i with
  | none => rfl
  | some q =>
   have hlt : i < gs.size := by
    rcases Nat.lt_or_ge i gs.size with h1 | h1
    ·exact h1
    ·rw [h.out i h1] at hr; cases hr
   have := (vals_upd (K := q.1) (v := q.2) hr hlt).length_eq
   rw [hvals] at this; simp at this
 have hkn : ∀ i a, touchAt t i = some a -> Knows t 0 i := fun i a ha => by
  rcases h.over i a ha with hk | ⟨op, _, hr⟩
  ·exact hk
  ·rw [hro, hbf] at hr; simp at hr
 have hd : ∀ (M₀ : Hp) x M, hps M₀ ro x = some M -> x = 0 /\ M = M₀ := fun M₀ x M hM => by
  by_cases hx : x = 0
  ·subst hx; cases hM; exact ⟨rfl, rfl⟩
  ·simp [hps, hx, hro x] at hM
 refine ⟨r, ⟨fun y M hM => ?_, fun y z M M' hyz hM hM' => ?_, fun y M hM b p o hb i a ha hab => ?_, h.mates.clean, h.mates.quiet, h.mates.low⟩, h.size, fun i x hx => ?_, h.out, h.zero, fun i a ha => .inl (hkn i a ha), h.base, fun x M b o hM hb => ?_, rfl, hro⟩
 ·obtain ⟨rfl, rfl⟩ := hd _ y M hM
  intro b p o hb
  unfold Hp.set at hb
  by_cases hbc : b = c
  ·subst hbc; simp at hb; rw [<- hb.2]; simpa using hB.obj
  ·rw [if_neg hbc] at hb; obtain ⟨p', hb', _⟩ := hG b p o hb; exact h.mates.sat 0 H rfl b p' o hb'
 ·exact absurd ((hd _ y M hM).1.trans (hd _ z M' hM').1.symm) hyz
 ·obtain ⟨rfl, rfl⟩ := hd _ y M hM
  exact .inl (hkn i a ha)
 ·obtain ⟨ρ, h1, h2⟩ := h.oth i x hx
  rw [hro] at h2 ⊢
  exact ⟨ρ, h1, h2.any rfl _⟩
 ·obtain ⟨rfl, rfl⟩ := hd _ x M hM
  unfold Hp.set at hb
  by_cases hbc : b = c
  ·subst hbc; exact hB.high
  ·rw [if_neg hbc] at hb; obtain ⟨p', hb', hp'⟩ := hG b true o hb; exact (hp' rfl).elim (fun e => h.owns 0 H b o rfl (e ▸ hb')) (hB.lent b)
def Ends (P : Program) (Post : Value -> World -> Prop) (m : Machine) (t : Trace) : Prop :=
 ∃ N last o w' t', runNT P (N + 1) m t = (.ended o w', t') /\ runN P N m = .next last /\ step P last = .ended o w' /\ Good P Post last o w' t'
theorem Ends.next {Post : Value -> World -> Prop} {m m' : Machine} {ops : Array MemOp} (h : stepT P m = (.next m', ops)) (h' : Ends P Post m' (t ++ ops)) : Ends P Post m t := by
 obtain ⟨N, last, o, w', t', h1, h2, h3, h4⟩ := h'
 exact ⟨N + 1, last, o, w', t', by rw [runNT_succ_next h]; exact h1, by rw [runN_succ_next h]; exact h2, h3, h4⟩
theorem Ends.now {Post : Value -> World -> Prop} {m : Machine} {o : Outcome} {w : World} {ops : Array MemOp} (h : stepT P m = (.ended o w, ops)) (h' : Good P Post m o w (t ++ ops)) : Ends P Post m t :=
 ⟨0, m, o, w, t ++ ops, by simp [runNT, h], rfl, by simp [step, h], h'⟩
theorem map_same {f : Goroutine -> Goroutine} (h : ∀ x ∈ gs, f x = x) : gs.map f = gs := by
 apply Array.ext_getElem?
 intro i
 rw [Array.getElem?_map]
 cases hi : gs[i]? with
 | none => rfl
 | some x => simp [h x (Array.mem_of_getElem? hi)]
theorem awake_stat {g : Goroutine} (h : g.status = .running ∨ g.status = .finished) : ∀ t, g.status ≠ .sleeping t := fun t e => by rcases h with h | h <;> rw [h] at e <;> cases e
theorem woken_stat {g g' x : Goroutine} (h : x.status = .running ∨ x.status = .finished) : woken P g g' w x = x := by
 unfold woken
 split
 ·exact again_running _ h
 ·rfl
theorem FI.stat (h : FI P W γ H gs w t μ ro bf) {i : Nat} {x : Goroutine} (hx : gs[i]? = some x) (hi : i ≠ 0) : x.status = .running ∨ x.status = .finished := by
 obtain ⟨j, rfl⟩ : ∃ j, i = j + 1 := ⟨i - 1, by omega⟩
 obtain ⟨ρ, _, h2⟩ := h.oth j x hx
 exact h2.status
theorem FI.other {i : Nat} {x a : Goroutine} {sl : Option (Nat × Nat)} (h : FI P W γ H gs w t μ ro bf) (hx : gs[i + 1]? = some x) (hr : x.status = .running) (h0 : gs[0]? = some a)
  (hwake : ∀ w', Sat H w' -> Still W γ H gs.size w' t ro bf -> ∀ g g', woken P g g' w' a = a) :
  (∃ gs' w' ops μ' ro', runT P (crowd gs w sl) (i + 1) = (.next (crowd gs' w' sl), ops) /\ Down μ' μ /\ FI P W γ H gs' w' (t ++ ops) μ' ro' bf /\ gs'[0]? = some a) ∨
  (∃ g₁ z K v ρ ρ', stepG P false x w = .comm g₁ #[scase γ.chan v z] true .send w #[] /\ ro (i + 1) = some (K, v) /\ μ[i]? = some ρ /\ Rk.lt ρ' ρ /\ Oth P γ.chan ρ' (Go.Conc.served g₁ undef) none) := by
 obtain ⟨ρ, hρ, ho⟩ := h.oth i x hx
 have hlt : i + 1 < gs.size := (Array.getElem?_eq_some_iff.1 hx).1
 have hi0 : (i + 1 == 0) = false := by simp
 have same : ∀ {w' : World} {g'}, (woken P x g' w' a = a) -> gs.map (woken P x g' w') = gs := fun {w' g'} ha => map_same fun y hy => by
  obtain ⟨j, hj⟩ := Array.mem_iff_getElem?.1 hy
  by_cases hj0 : j = 0
  ·subst hj0; rw [h0] at hj; cases hj; exact ha
  ·exact woken_stat (h.stat hj hj0)
 generalize hro : ro (i + 1) = q at ho
 cases ho with
 | fin hf => rw [hf] at hr; cases hr
 | slip y hs hst hn =>
  rename_i g' 
  have hrun := runT_crowd_go (P := P) (sl := sl) (i := i + 1) hx (by rw [hi0]; exact hst w)
  rw [same (hwake w (h.mates.sat 0 H rfl) h.still _ _)] at hrun
  refine .inl ⟨_, _, _, μ.set i _, ro, hrun, Down.set hρ (.sub _ y), ?_, by rw [Array.getElem?_setIfInBounds_ne (by omega)]; exact h0⟩
  have e : MemOp.ofEvents (i + 1) x.frame.fn x.frame.place #[] = #[] := rfl
  rw [e, Array.append_empty]
  exact h.slip hro hρ hn
 | step S hs hst ht =>
  rename_i f K v
  obtain ⟨g', w', es, K', h1, hm, hS⟩ := hst w (h.mates.sat (i + 1) K (by rw [hps_succ, hro]; rfl))
  have hrun := runT_crowd_go (P := P) (sl := sl) (i := i + 1) hx (by rw [hi0]; exact h1)
  have hF := h.moveI (fn := x.frame.fn) (pos := x.frame.place) hro hρ hm (ht g' K' hS)
  have hw : woken P x g' w' a = a := by
   refine hwake w' (hF.mates.sat 0 H rfl) ?_ _ _
   have hst' := hF.still
   cases γ with
   | idle => exact h.still
   | busy c cap L D =>
    obtain ⟨buf, r, hB⟩ := h.still
    refine ⟨buf, r, ?_, hB.none, hB.high, hB.perm, hB.room, hB.len, hB.by_, hB.lent⟩
    rw [hm.frame c (lt_of_heap hB.obj) fun o hco => by rw [hB.none (i + 1) K (by rw [hps_succ, hro]; rfl)] at hco; cases hco]
    exact hB.obj
  rw [same hw] at hrun
  exact .inl ⟨_, _, _, _, _, hrun, Down.set hρ (.sub _ _), hF, by rw [Array.getElem?_setIfInBounds_ne (by omega)]; exact h0⟩
 | send y hs hst hn =>
  rename_i f g₁ z K v
  exact .inr ⟨g₁, z, K, v, _, _, hst w (h.mates.sat (i + 1) K (by rw [hps_succ, hro]; rfl)), rfl, hρ, .sub _ y, hn⟩
theorem FI.awake (h : FI P W γ H gs w t μ ro bf) {a : Goroutine} (h0 : gs[0]? = some a) (ha : awake a) : ∀ g ∈ gs, awake g := by
 intro g hg
 obtain ⟨j, hj⟩ := Array.mem_iff_getElem?.1 hg
 by_cases hj0 : j = 0
 ·subst hj0; rw [h0] at hj; cases hj; exact ha
 ·exact awake_stat (h.stat hj hj0)
theorem FI.room (h : FI P W (.busy c cap L D) H gs w t μ ro bf) {buf : Array Value} {r i : Nat} {K : Hp} {v : Value} (hB : Busy W c cap L D H gs.size w t ro bf buf r) (hr : ro (i + 1) = some (K, v)) : buf.size < cap := by
 have hlt : i + 1 < gs.size := by
  rcases Nat.lt_or_ge (i + 1) gs.size with h1 | h1
  ·exact h1
  ·rw [h.out _ h1] at hr; cases hr
 have h1 := (vals_upd hr hlt).length_eq
 have h2 := hB.perm.length_eq
 have := hB.room
 simp at h1 h2
 omega
theorem run_others {Post : Value -> World -> Prop} {g : Goroutine} (hrun : g.status = .running)
  (hmain : ∀ gs w sl t μ ro bf d sl', FI P W γ H gs (w.at d) t μ ro bf -> gs[0]? = some g -> stepT P (crowd gs w sl) = runT P (crowd gs (w.at d) sl') 0 -> Ends P Post (crowd gs w sl) t) :
  ∀ μ gs w sl t ro bf, FI P W γ H gs w t μ ro bf -> gs[0]? = some g -> Ends P Post (crowd gs w sl) t := by
 intro μ
 induction Down.acc μ with
 | intro μ _ ih =>
  intro gs w sl t ro bf h h0
  obtain ⟨i, x, d, sl', hi, hx, hst⟩ := crowd_pick (P := P) (w := w) (sl := sl) (h.awake h0 (awake_stat (.inl hrun))) ⟨0, g, h0, hrun⟩
  cases i with
  | zero => exact hmain gs w sl t μ ro bf d sl' (h.at d) h0 hst
  | succ i =>
   rcases (h.at d).other (sl := sl') hi hx h0 (fun w' _ _ _ _ => woken_run hrun) with ⟨gs', w', ops, μ', ro', hr, hd, hF, h0'⟩ | ⟨g₁, z, K, v, ρ, ρ', hs, hro, hρ, hlt, hn⟩
   ·exact Ends.next (hst.trans hr) (ih μ' hd _ _ _ _ _ _ hF h0')
   ·cases γ with
    | idle => rw [h.still.2] at hro; cases hro
    | busy c cap L D =>
     obtain ⟨buf, r, hB⟩ := (h.at d).still
     have hrT := runT_crowd_comm (P := P) (sl := sl') (i := i + 1) hi (by rw [show (i + 1 == 0) = false by simp]; exact hs)
     have hnb : ∀ y ∈ gs.setIfInBounds (i + 1) fin0, y.status ≠ .blocked := none_blocked fun j y hj hne e => by
      by_cases hj0 : j = 0
      ·subst hj0; rw [h0] at hj; cases hj; rw [hrun] at e; cases e
      ·rcases h.stat hj hj0 with h1 | h1 <;> rw [h1] at e <;> cases e
     rw [show Gh.chan (.busy c cap L D) = c from rfl, comm_send_room hB.obj ((h.at d).room hB hro) hnb, set_self_set] at hrT
     refine Ends.next (hst.trans hrT) (ih (μ.set i ρ') (Down.set hρ hlt) _ _ _ _ (upd ro (i + 1) none) (bf ++ [i + 1]) ?_ (by rw [Array.getElem?_setIfInBounds_ne (by omega)]; exact h0))
     have e : MemOp.ofEvents (i + 1) x.frame.fn x.frame.place #[] = #[] := rfl
     rw [e, Array.empty_append]
     exact (h.at d).send hB hro hρ hn
theorem run_waits {Post : Value -> World -> Prop} {g₁ : Goroutine} {e s r' : Nat} {z z' : Value} (hL : L ≠ []) (he : H e = some (true, .chan 0 #[] false s r' false))
  (hn : ∀ v L', L.Perm (v :: L') -> ∀ gs w sl t μ ro bf, FI P W (.busy c cap L' D) H gs w t μ ro bf -> gs[0]? = some (g₁.finishComm P #[rcase c z, rcase e z'] .select 0 v true) -> Ends P Post (crowd gs w sl) t) :
  ∀ μ gs w sl t ro, FI P W (.busy c cap L D) H gs w t μ ro [] -> gs[0]? = some (parked g₁ #[rcase c z, rcase e z'] .select) -> Ends P Post (crowd gs w sl) t := by
 intro μ
 induction Down.acc μ with
 | intro μ _ ih =>
  intro gs w sl t ro h h0
  have hce : c ≠ e := by
   obtain ⟨buf, r, hB⟩ := h.still
   intro hce; have := hB.none 0 H rfl; rw [hce, he] at this; cases this
  have hsome : ∃ (i : Nat) (x : Goroutine), gs[i]? = some x /\ x.status = .running := by
   obtain ⟨buf, r, hB⟩ := h.still
   have hbuf : buf = #[] := Array.eq_empty_of_size_eq_zero (by simpa using hB.len.symm)
   subst hbuf
   have hv : vals ro gs.size ≠ [] := fun e0 => hL (by have := hB.perm; rw [e0] at this; simpa using this)
   obtain ⟨i, K, v, hlt, hr⟩ := vals_some hv
   obtain ⟨j, rfl⟩ : ∃ j, i = j + 1 := ⟨i - 1, by
    have : i ≠ 0 := fun e0 => by rw [e0, h.zero] at hr; cases hr
    omega⟩
   obtain ⟨ρ, _, ho⟩ := h.oth j _ (Array.getElem?_eq_getElem hlt)
   refine ⟨j + 1, _, Array.getElem?_eq_getElem hlt, ?_⟩
   rw [hr] at ho
   cases ho <;> assumption
  have hpk : awake (parked g₁ #[rcase c z, rcase e z'] .select) := fun t e => by cases e
  obtain ⟨i, x, d, sl', hi, hx, hst⟩ := crowd_pick (P := P) (w := w) (sl := sl) (h.awake h0 hpk) hsome
  cases i with
  | zero => rw [h0] at hi; cases hi; cases hx
  | succ i =>
   have hwake : ∀ w', Sat H w' -> Still W (.busy c cap L D) H gs.size w' t ro [] -> ∀ g g', woken P g g' w' (parked g₁ #[rcase c z, rcase e z'] .select) = parked g₁ #[rcase c z, rcase e z'] .select := fun w' hw' ⟨buf, r, hB⟩ g g' => by
    unfold woken
    split
    ·have h1 := hB.obj
     have h2 := hw' _ _ _ he
     simp [Goroutine.again, parked, rcase, h1, h2]
    ·rfl
   rcases (h.at d).other (sl := sl') hi hx h0 hwake with ⟨gs', w', ops, μ', ro', hr, hd, hF, h0'⟩ | ⟨g₂, zz, K, v, ρ, ρ', hs, hro, hρ, hlt, hn'⟩
   ·exact Ends.next (hst.trans hr) (ih μ' hd _ _ _ _ _ hF h0')
   ·obtain ⟨buf, r, hB⟩ := (h.at d).still
    have hbuf : buf = #[] := Array.eq_empty_of_size_eq_zero (by simpa using hB.len.symm)
    subst hbuf
    have hrT := runT_crowd_comm (P := P) (sl := sl') (i := i + 1) hi (by rw [show (i + 1 == 0) = false by simp]; exact hs)
    obtain ⟨l, hl⟩ : ∃ l, gs.setIfInBounds (i + 1) fin0 = (parked g₁ #[rcase c z, rcase e z'] .select :: l).toArray := by
     obtain ⟨gl⟩ := gs
     cases gl with
     | nil => simp at h0
     | cons y gl => simp at h0; subst h0; exact ⟨gl.set i fin0, by simp⟩
    have hnb : ∀ y ∈ l, y.status ≠ .blocked := fun y hy e => by
     obtain ⟨j, hj⟩ := List.mem_iff_getElem?.1 hy
     have hj' : (gs.setIfInBounds (i + 1) fin0)[j + 1]? = some y := by rw [hl]; simpa using hj
     by_cases hji : j = i
     ·subst hji
      rw [Array.getElem?_setIfInBounds_self_of_lt (Array.getElem?_eq_some_iff.1 hi).1] at hj'
      cases hj'; cases e
     ·rw [Array.getElem?_setIfInBounds_ne (by omega)] at hj'
      rcases h.stat hj' (by omega) with h1 | h1 <;> rw [h1] at e <;> cases e
    obtain ⟨L', hp, hF⟩ := (h.at d).meet (a' := g₁.finishComm P #[rcase c z, rcase e z'] .select 0 v true) (f₁ := g₂.frame.fn) (p₁ := g₂.frame.place) (f₂ := g₁.frame.fn) (p₂ := g₁.frame.place) hB hro hρ hn'
    rw [hl, show Gh.chan (.busy c cap L D) = c from rfl, comm_send_meets (r := r) (s := r) hce rfl hnb (by simpa using hB.obj)] at hrT
    have ege : ((parked g₁ #[rcase c z, rcase e z'] .select :: l).toArray.modify 0 (handed P v)).setIfInBounds (i + 1) (Go.Conc.served g₂ undef) = (gs.setIfInBounds 0 (g₁.finishComm P #[rcase c z, rcase e z'] .select 0 v true)).setIfInBounds (i + 1) (Go.Conc.served g₂ undef) := by
     have hsz : 0 < gs.size := by have := (Array.getElem?_eq_some_iff.1 h0).1; omega
     apply Array.ext_getElem?
     intro j
     by_cases hji : i + 1 = j
     ·subst hji
      have hlt' := (Array.getElem?_eq_some_iff.1 hi).1
      have hls : l.length + 1 = gs.size := by have := congrArg Array.size hl; simpa using this.symm
      rw [Array.getElem?_setIfInBounds_self_of_lt (by simp; omega), Array.getElem?_setIfInBounds_self_of_lt (by simpa using hlt')]
     ·rw [Array.getElem?_setIfInBounds_ne hji, Array.getElem?_setIfInBounds_ne hji, Array.getElem?_modify]
      by_cases hj0 : j = 0
      ·subst hj0
       rw [Array.getElem?_setIfInBounds_self_of_lt hsz]
       simp [handed, parked, rcase, Goroutine.finishComm]
      ·rw [Array.getElem?_setIfInBounds_ne (by omega), if_neg (by omega), <- hl, Array.getElem?_setIfInBounds_ne hji]
    rw [ege] at hrT
    refine Ends.next (hst.trans hrT) (hn v L' hp _ _ _ _ (μ.set i ρ') (upd ro (i + 1) none) [] ?_ ?_)
    ·have e : MemOp.ofEvents (i + 1) x.frame.fn x.frame.place #[] = #[] := rfl
     rw [e, Array.empty_append]
     exact hF
    ·rw [Array.getElem?_setIfInBounds_ne (by omega), Array.getElem?_setIfInBounds_self_of_lt (Array.getElem?_eq_some_iff.1 h0).1]
theorem Fan.ends {Post : Value -> World -> Prop} {T : Goroutine -> Hp -> Prop} (hT : ∀ g H, T g H -> g.status = .running /\ ∀ w, Sat H w -> Base W w -> ∃ v es, stepG P true g w = .ended (.done v) w es /\ Moves H w es H w /\ Post v w) {g : Goroutine}
  (h : Fan P T γ g H) : ∀ gs w sl t μ ro bf, FI P W γ H gs w t μ ro bf -> gs[0]? = some g -> Ends P Post (crowd gs w sl) t := by
 induction h with
 | stop hg hl =>
  rename_i g H H₀
  obtain ⟨hrun, hend⟩ := hT _ _ hg
  refine fun gs w sl t μ ro bf => run_others (W := W) hrun (fun gs w sl t μ ro bf d sl' hF h0 hst => ?_) μ gs w sl t ro bf
  obtain ⟨v, es, h1, hm, hp⟩ := hend (w.at d) ((hF.mates.sat 0 _ rfl).mono hl) hF.base
  have hrunT := runT_many_ended (P := P) (sl := sl') (i := 0) h0 (show stepG P (0 == 0) g (w.at d) = _ from h1)
  have hF' := hF.move0 (fn := g.frame.fn) (pos := g.frame.place) (hm.more hl) g
  obtain ⟨hbf, hro⟩ := hF'.still
  refine Ends.now (hst.trans hrunT) ⟨v, rfl, hp, hF'.mates.clean, fun i k hk hk0 hc => ?_, ⟨fun x hx => ?_, rfl⟩, fun j x hx hj => ?_⟩
  ·obtain ⟨a, ha, _⟩ := hc
   rcases hF'.over i a ha with ⟨q, z, hz, hzg, hb⟩ | ⟨op, _, hr⟩
   ·refine ⟨q, by simp [Trace.g?, hz, hzg], hb.elim (fun e => ?_) id⟩
    subst e
    simp [Trace.g?, hz, hzg] at hk
    exact absurd hk.symm hk0
   ·rw [hro, hbf] at hr; simp at hr
  ·obtain ⟨j, hj⟩ := List.mem_iff_getElem?.1 hx
   rw [List.getElem?_drop] at hj
   obtain ⟨ρ, _, ho⟩ := hF.oth j x (by rw [Nat.add_comm]; simpa [crowd] using hj)
   rw [hro] at ho
   obtain ⟨n, hn⟩ := ho.quits rfl
   exact ⟨_, hn.leaves⟩
  ·obtain ⟨i, rfl⟩ : ∃ i, j = i + 1 := ⟨j - 1, by omega⟩
   obtain ⟨ρ, _, ho⟩ := hF.oth i x hx
   rw [hro] at ho
   obtain ⟨n, hn⟩ := ho.quits rfl
   refine ⟨n, ?_⟩
   have e := hF'.mates.quiet.deaf (i + 1) (t ++ MemOp.ofEvents 0 g.frame.fn g.frame.place es).size
   rw [e]
   exact hn.hears _
 | step S hs h ht ih =>
  refine fun gs w sl t μ ro bf => run_others (W := W) hs (fun gs w sl t μ ro bf d sl' hF h0 hst => ?_) μ gs w sl t ro bf
  obtain ⟨g', w', es, H', h1, hm, hS⟩ := h (w.at d) (hF.mates.sat 0 _ rfl)
  have hrunT := runT_crowd_go (P := P) (sl := sl') (i := 0) h0 (show stepG P (0 == 0) _ (w.at d) = _ from h1)
  have hsame : ∀ (q : Goroutine), (gs.map (woken P q g' w')).setIfInBounds 0 g' = gs.setIfInBounds 0 g' := fun q => by
   apply Array.ext_getElem?
   intro j
   by_cases hj : j = 0
   ·subst hj
    rw [Array.getElem?_setIfInBounds_self_of_lt (by simpa using (Array.getElem?_eq_some_iff.1 h0).1), Array.getElem?_setIfInBounds_self_of_lt (Array.getElem?_eq_some_iff.1 h0).1]
   ·rw [Array.getElem?_setIfInBounds_ne (by omega), Array.getElem?_setIfInBounds_ne (by omega), Array.getElem?_map]
    cases hg : gs[j]? with
    | none => rfl
    | some y => simp [woken_stat (hF.stat hg hj)]
  rw [hsame] at hrunT
  exact Ends.next (hst.trans hrunT) (ih g' H' hS _ _ _ _ _ _ _ (hF.move0 hm g') (Array.getElem?_setIfInBounds_self_of_lt (Array.getElem?_eq_some_iff.1 h0).1))
 | opn h hD _ ih => exact fun gs w sl t μ ro bf hF h0 => ih _ _ _ _ _ _ _ (hF.opn h hD) h0
 | close hG _ ih => exact fun gs w sl t μ ro bf hF h0 => let ⟨n, hF'⟩ := hF.lay hG; ih n _ _ _ _ _ _ _ hF' h0
 | spawn hs h hl hc hH ho hn ih =>
  refine fun gs w sl t μ ro bf => run_others (W := W) hs (fun gs w sl t μ ro bf d sl' hF h0 hst => ?_) μ gs w sl t ro bf
  obtain ⟨ρ, hρ⟩ := ho
  have hrunT := runT_crowd_spawn (P := P) (sl := sl') (i := 0) h0 (show stepG P (0 == 0) _ (w.at d) = _ from h (w.at d) (hF.mates.sat 0 _ rfl))
  have hlt := (Array.getElem?_eq_some_iff.1 h0).1
  refine Ends.next (hst.trans hrunT) (ih _ _ _ _ _ _ _ (hF.spawn hlt hl hc hH hρ) ?_)
  rw [Array.getElem?_push_lt (by simpa using hlt)]
  simp [hlt]
 | recv hs hL h he hn ih =>
  rename_i c cap e s r D L g g₁ z z' H
  refine fun gs w sl t μ ro bf => run_others (W := W) hs (fun gs w sl t μ ro bf d sl' hF h0 hst => ?_) μ gs w sl t ro bf
  have hlt := (Array.getElem?_eq_some_iff.1 h0).1
  obtain ⟨buf, r₀, hB⟩ := hF.still
  have hrT := runT_crowd_comm (P := P) (sl := sl') (i := 0) h0 (show stepG P (0 == 0) _ (w.at d) = _ from h (w.at d) (hF.mates.sat 0 _ rfl))
  have hnb : ∀ y ∈ gs.setIfInBounds 0 fin0, y.status ≠ .blocked := none_blocked fun j y hj hne e => by
   rcases hF.stat hj hne with h1 | h1 <;> rw [h1] at e <;> cases e
  have hwe := hF.mates.sat 0 _ rfl e _ _ he
  have e0 : MemOp.ofEvents 0 g.frame.fn g.frame.place #[] = #[] := rfl
  by_cases hb : 0 < buf.size
  ·rw [comm_recv_buf hB.obj hb hwe hnb, set_self_set, e0, Array.empty_append] at hrT
   obtain ⟨L', hp, hF'⟩ := hF.take (a' := g₁.finishComm P #[rcase c z, rcase e z'] .select 0 (buf.getD 0 undef) true) (f₁ := g₁.frame.fn) (p₁ := g₁.frame.place) hB hb
   exact Ends.next (hst.trans hrT) (ih _ L' hp _ _ _ _ _ _ _ hF' (Array.getElem?_setIfInBounds_self_of_lt hlt))
  ·have hbuf : buf = #[] := Array.eq_empty_of_size_eq_zero (by omega)
   subst hbuf
   have hbf : bf = [] := List.eq_nil_of_length_eq_zero (by simpa using hB.len)
   subst hbf
   rw [comm_recv_waits (s := r₀) (r := r₀) (by simpa using hB.obj) hwe hnb, set_self_set, e0, Array.empty_append] at hrT
   refine Ends.next (hst.trans hrT) ?_
   rw [Array.append_empty]
   refine run_waits (W := W) hL he (fun v L' hp gs w sl t μ ro bf hF h0 => ih v L' hp _ _ _ _ _ _ _ hF h0) μ _ _ _ _ ro ?_ (Array.getElem?_setIfInBounds_self_of_lt hlt)
   exact ⟨hF.mates, by simpa using hF.size, fun j y hy => hF.oth j y (by rwa [Array.getElem?_setIfInBounds_ne (by omega)] at hy), fun j hj => hF.out j (by simpa using hj), hF.zero, hF.over, hF.base, hF.owns, by rw [Array.size_setIfInBounds]; exact hF.still⟩
 | shut hs h he hn ih =>
  rename_i c cap e s r D g g₁ z z' H
  refine fun gs w sl t μ ro bf => run_others (W := W) hs (fun gs w sl t μ ro bf d sl' hF h0 hst => ?_) μ gs w sl t ro bf
  have hlt := (Array.getElem?_eq_some_iff.1 h0).1
  obtain ⟨buf, r₀, hB⟩ := hF.still
  have hp := hB.perm.length_eq
  simp at hp
  have hbuf : buf = #[] := Array.eq_empty_of_size_eq_zero (by omega)
  subst hbuf
  have hrT := runT_crowd_comm (P := P) (sl := sl') (i := 0) h0 (show stepG P (0 == 0) _ (w.at d) = _ from h (w.at d) (hF.mates.sat 0 _ rfl))
  have hnb : ∀ y ∈ gs.setIfInBounds 0 fin0, y.status ≠ .blocked := none_blocked fun j y hj hne e => by
   rcases hF.stat hj hne with h1 | h1 <;> rw [h1] at e <;> cases e
  have e0 : MemOp.ofEvents 0 g.frame.fn g.frame.place #[] = #[] := rfl
  rw [comm_recv_shut (s := r₀) (r := r₀) (by simpa using hB.obj) (hF.mates.sat 0 _ rfl e _ _ he) hnb, set_self_set, e0, Array.empty_append] at hrT
  exact Ends.next (hst.trans hrT) (ih _ _ _ _ _ _ _ (hF.shut (a' := g₁.finishComm P #[rcase c z, rcase e z'] .select 1 z' false)) (Array.getElem?_setIfInBounds_self_of_lt hlt))
end
end Go.X
end
section
namespace Go.X
open Go
open Go.Conc
def allShared (w : World) : Hp := fun b => (w.heap[b]?).map fun o => (false, o)
theorem allShared_get {w : World} {b : Nat} {p : Bool} {o : Obj} (h : allShared w b = some (p, o)) : p = false /\ w.heap[b]? = some o := by
 simp only [allShared, Option.map_eq_some_iff, Prod.mk.injEq] at h
 obtain ⟨o', h1, h2, rfl⟩ := h
 exact ⟨h2.symm, h1⟩
theorem FnX.good {P : Program} {f : FuncId} {fn : Func} {args : Array Value} {W : World} {v₀ : Value} (h : FnX P (.co P) f args (allShared W) fun e _ => e = .returned v₀) (hf : P.funcs[f]? = some fn)
  (hr : ∀ tmps w v w', (results fn tmps).run P w = .ok v w' -> w' = w) (hi : P.inits.idxOf? f = none) :
  Ends P (fun v w => v = v₀ /\ Base W w) (solo (G (Frame.enter P f args .normal) []) W) #[] := by
 rw [solo_eq_crowd]
 have hW0 := h [] (fun g H => ∃ fr, g = G fr [] /\ fr.fn = f /\ Leaving P fr H fun e _ => e = .returned v₀) fun fr H' hfn hl => .stop ⟨fr, rfl, hfn, hl⟩ (Hp.le_refl _)
 refine Fan.ends (W := W) ?_ hW0.fan _ _ _ _ [] (fun _ => none) [] ⟨⟨fun x K hx => ?_, fun x y K K' hxy hx hy => ?_, fun x K hx b p o hb i a ha => by simp [touchAt, Trace.act?] at ha, past_nil.clean, fun op hop => by simp at hop, fun i a b ha => by simp [touchAt, Trace.act?] at ha⟩, rfl, fun i x hx => by simp at hx, fun _ _ => rfl, rfl, fun i a ha => by simp [touchAt, Trace.act?] at ha, ⟨rfl, rfl, Nat.le_refl _, fun _ _ => rfl⟩, fun x K b o hx hb => ?_, rfl, fun _ => rfl⟩ rfl
 ·rintro g H ⟨fr, rfl, hfn, hl⟩
  refine ⟨rfl, fun w hsat hB => ?_⟩
  rcases hl with ⟨hm, hd, hk, fn', hf', hres⟩ | ⟨ch, _, _, _, _, hres⟩
  ·obtain rfl : fn' = fn := Option.some.inj (hf'.symm.trans (by rw [hfn]; exact hf))
   obtain ⟨es, w', H', hmv, r, hrun, hd'⟩ := wpS_sound _ w hsat hres
   have hr0 : (results fn' fr.tmps).runT P w #[] = (r, es) := by rw [hrun #[]]; simp
   rcases hd' with ⟨v, rfl, hv⟩ | ⟨v, _, hv⟩
   ·have hrun' : (results fn' fr.tmps).run P w = .ok v w' := by
     have := congrArg Prod.fst hr0
     simpa using this
    have := hr _ _ _ _ hrun'
    subst this
    have hv' : v = v₀ := by injection hv
    subst hv'
    refine ⟨v, seen P fr.fn es, ?_, ?_, rfl, hB⟩
    ·have hi' : P.inits.idxOf? fr.fn = none := by rw [hfn]; exact hi
     simp [G, stepG, unwind, doReturn, hm, hd, hk, hf', hr0, hi', GStep.after, -Sem.runT_eq]
    ·have hq := hmv.seen (P := P) fr.fn
     exact ⟨hsat, hq.size, fun _ _ _ => rfl, fun b p o' hb => .inl ⟨o', hb, fun _ => rfl⟩, rfl, rfl, rfl, hq.evs, hq.low⟩
   ·exact hv.elim
  ·cases hres
 ·by_cases hx0 : x = 0
  ·subst hx0; cases hx
   exact fun b p o hb => (allShared_get hb).2
  ·simp [hps, hx0] at hx
 ·by_cases hx0 : x = 0
  ·by_cases hy0 : y = 0
   ·exact absurd (hx0.trans hy0.symm) hxy
   ·simp [hps, hy0] at hy
  ·simp [hps, hx0] at hx
 ·by_cases hx0 : x = 0
  ·subst hx0; cases hx
   exact absurd (allShared_get hb).1 (by simp)
  ·simp [hps, hx0] at hx
end Go.X
end
section
namespace Go.X
open Go
def upd (e : Nat -> Value) (d : Nat) (v : Value) : Nat -> Value := fun t => if t = d then v else e t
def act (n : Nat) (e : Nat -> Value) (ds : List Deferred) : Act := { tmps := Array.ofFn fun i : Fin n => e i, defers := ds }
section
variable {n : Nat} {e : Nat -> Value} {ds : List Deferred}
theorem act_get {t : Nat} (h : t < n) : (act n e ds).tmps.getD t undef = e t := by simp [act, Array.getD, h]
theorem act_get? {t : Nat} (h : t < n) : (act n e ds).tmps[t]? = some (e t) := by simp [act, h]
theorem act_eval {t : Nat} (h : t < n) : (act n e ds).eval (.tmp t) = e t := act_get h
theorem act_put {d : Nat} {v : Value} (h : d < n) : (act n e ds).put (some d) v = act n (upd e d v) ds := by
 simp only [act, Act.put, Act.mk.injEq, and_true]
 apply Array.ext
 ·simp
 ·intro i h1 h2
  simp at h1 h2
  by_cases hi : i = d
  ·subst hi; simp [upd]
  ·rw [Array.getElem_setIfInBounds_ne (by simpa using h1) (fun h => hi h.symm)]
   simp [upd, hi]
theorem act_put_none {v : Value} : (act n e ds).put none v = act n e ds := rfl
theorem eval_const (a : Act) (v : Value) : a.eval (.const v) = v := rfl
theorem eval_func (a : Act) (f : FuncId) : a.eval (.func f) = .func (.func f) #[] #[] := rfl
theorem upd_same {d : Nat} {v : Value} : upd e d v d = v := by simp [upd]
theorem upd_get {d t : Nat} {v : Value} : upd e d v t = if t = d then v else e t := rfl
def envOf (args : List Value) : Nat -> Value := fun t => args.getD t undef
theorem envOf_zero (v : Value) (l : List Value) : envOf (v :: l) 0 = v := rfl
theorem envOf_succ (v : Value) (l : List Value) (t : Nat) : envOf (v :: l) (t + 1) = envOf l t := rfl
theorem envOf_nil (t : Nat) : envOf [] t = undef := by simp [envOf]
theorem enter_act {args : List Value} (h : args.length <= n) : ({ tmps := args.toArray ++ Array.replicate (n - args.toArray.size) undef, defers := [] } : Act) = act n (envOf args) [] := by
 simp only [act, Act.mk.injEq, and_true]
 apply Array.ext
 ·simp; omega
 ·intro i h1 h2
  simp at h1 h2
  simp only [Array.getElem_ofFn, envOf]
  by_cases hi : i < args.length
  ·simp [hi]
  ·simp [Array.getElem_append, hi]
end
section
variable {P : Program} {main : Md} {lp : Option Nat} {Q : Exit -> Act -> Hp -> Prop} {H : Hp} {n : Nat} {e : Nat -> Value} {ds : List Deferred}
theorem FnX_start {f : FuncId} {fn : Func} {c : Code} {args : List Value} {R : Ending -> Hp -> Prop} (hf : P.funcs[f]? = some fn) (hb : fn.body = some c) (hn : fn.ntmps = n) (ha : args.length <= n)
  (h : wpX P main none c (bodyX P main fn R) (act n (envOf args) []) H) : FnX P main f args.toArray H R := by
 refine FnX_of hf hb ?_
 rw [hn, enter_act ha]
 exact h
theorem bodyX_ret {fn : Func} {R : Ending -> Hp -> Prop} : bodyX P main fn R .ret (act n e []) H = wpS P (results fn (act n e []).tmps) H (fun v H' => R (.returned v) H') fun _ _ => False := rfl
theorem bodyX_normal {fn : Func} {R : Ending -> Hp -> Prop} : bodyX P main fn R .normal (act n e []) H = wpS P (results fn (act n e []).tmps) H (fun v H' => R (.returned v) H') fun _ _ => False := rfl
theorem wpS_pure {α : Type} (a : α) (K : α -> Hp -> Prop) (E : Value -> Hp -> Prop) : wpS P (pure a) H K E = K a H := rfl
theorem wpS_bind' {α β : Type} (s : Sem α) (f : α -> Sem β) (K : β -> Hp -> Prop) (E : Value -> Hp -> Prop) :
 wpS P (s >>= f) H K E = wpS P s H (fun a H' => wpS P (f a) H' K E) E := propext (wpS_bind s f H K E)
theorem wpS_ite {α : Type} (c : Prop) [Decidable c] (x y : Sem α) (K : α -> Hp -> Prop) (E : Value -> Hp -> Prop) : wpS P (if c then x else y) H K E = if c then wpS P x H K E else wpS P y H K E := by split <;> rfl
theorem wpS_underlying {t : TypeId} {d : TypeDesc} (h : P.underlying t = some d) (K : TypeDesc -> Hp -> Prop) (E : Value -> Hp -> Prop) : wpS P (underlying t) H K E = K d H := by
 change wpS P (match P.underlying t with | some d => pure d | none => stuck _) H K E = _
 rw [h]; rfl
theorem wpS_typeInfo {t : TypeId} {i : TypeInfo} (h : P.info? t = some i) (K : TypeInfo -> Hp -> Prop) (E : Value -> Hp -> Prop) : wpS P (typeInfo t) H K E = K i H := by
 change wpS P (match P.info? t with | some d => pure d | none => stuck _) H K E = _
 rw [h]; rfl
theorem info_of_run {t : TypeId} {i : TypeInfo} (h : ∀ w, (typeInfo t).run P w = .ok i w) : P.info? t = some i := by
 have h := h default
 change (match P.info? t with | some d => (pure d : Sem TypeInfo) | none => stuck _).run P default = _ at h
 cases hi : P.info? t with
 | none => rw [hi] at h; exact absurd h (by simp [stuck])
 | some j => rw [hi] at h; simp only [pure, Sem.run, Result.ok.injEq] at h; rw [h.1]
theorem wpS_sizeOf {t : TypeId} {k : Nat} (h : ∀ w, (sizeOf t).run P w = .ok k w) (K : Nat -> Hp -> Prop) (E : Value -> Hp -> Prop) : wpS P (sizeOf t) H K E = K k H := by
 have h := h default
 change ((match P.info? t with | some d => (pure d : Sem TypeInfo) | none => stuck _).bind fun i => pure i.size).run P default = _ at h
 change wpS P ((match P.info? t with | some d => (pure d : Sem TypeInfo) | none => stuck _).bind fun i => pure i.size) H K E = _
 cases hi : P.info? t with
 | none => rw [hi] at h; exact absurd h (by simp [stuck, Sem.bind])
 | some j => rw [hi] at h; simp only [pure, Sem.run, Sem.bind, Result.ok.injEq] at h; rw [<- h.1]; rfl
theorem wpS_zeroValue {t : TypeId} {z : Value} (h : ∀ w, (zeroValue t).run P w = .ok z w) (K : Value -> Hp -> Prop) (E : Value -> Hp -> Prop) : wpS P (zeroValue t) H K E = K z H := by
 have h := h default
 change ((match P.info? t with | some d => (pure d : Sem TypeInfo) | none => stuck _).bind fun i => match i.zero with | some v => pure v | none => unsupported _).run P default = _ at h
 change wpS P ((match P.info? t with | some d => (pure d : Sem TypeInfo) | none => stuck _).bind fun i => match i.zero with | some v => pure v | none => unsupported _) H K E = _
 cases hi : P.info? t with
 | none => rw [hi] at h; exact absurd h (by simp [stuck, Sem.bind])
 | some j =>
  rw [hi] at h
  cases hz : j.zero with
  | none => simp only [pure, Sem.bind, hz] at h; exact absurd h (by simp [unsupported])
  | some v => simp only [pure, Sem.run, Sem.bind, hz, Result.ok.injEq] at h; simp only [pure, Sem.bind, hz, wpS]; rw [h.1]
def aggB : TypeDesc -> Bool
 | .struct _ => true
 | .array _ _ => true
 | _ => false
theorem wpS_isAgg {t : TypeId} {d : TypeDesc} (h : P.underlying t = some d) (K : Bool -> Hp -> Prop) (E : Value -> Hp -> Prop) :
  wpS P (isAgg t) H K E = K (aggB d) H := by
 unfold isAgg
 rw [wpS_bind', wpS_underlying h]
 cases d <;> rfl
theorem wpS_callFunc {f : FuncId} {fn : Func} (hf : P.funcs[f]? = some fn) (hn : (fn.name == "runtime.NumGoroutine") = false) (hb : fn.body.isNone = false) (args : Array Value) (K : Next -> Hp -> Prop) (E : Value -> Hp -> Prop) :
  wpS P (callFunc f args) H K E = K (.enter f args) H := by
 unfold callFunc
 rw [wpS_bind']
 change wpS P (match P.funcs[f]? with | none => _ | some fn => _) H K E = _
 rw [hf]
 simp only [hn, hb, Bool.false_eq_true, if_false]
 rfl
def pickK (P : Program) (c x y : Value) (H : Hp) (K : Next -> Hp -> Prop) (E : Value -> Hp -> Prop) : Prop := wpS P (do pure (.value (if <- asBool c then x else y)) : Sem Next) H K E
theorem pickK_bool (t : Bool) (x y : Value) (K : Next -> Hp -> Prop) (E : Value -> Hp -> Prop) : pickK P (.bool t) x y H K E = K (.value (if t then x else y)) H := by cases t <;> rfl
def nilK (P : Program) (v : Value) (H : Hp) (K : Next -> Hp -> Prop) (E : Value -> Hp -> Prop) : Prop := wpS P (execOp (fun _ => v) ⟨none, .nilCheck (.tmp 0), 0, default, #[], none⟩) H K E
theorem nilK_ptr (a : Addr) (K : Next -> Hp -> Prop) (E : Value -> Hp -> Prop) : nilK P (.pointer (some a)) H K E = K (.value (.pointer (some a))) H := rfl
theorem nilK_func (f : FuncId) (fi cap : Array Value) (K : Next -> Hp -> Prop) (E : Value -> Hp -> Prop) : nilK P (.func (.func f) fi cap) H K E = K (.value (.func (.func f) fi cap)) H := rfl
theorem nilK_yield (l : Nat) (fi cap : Array Value) (K : Next -> Hp -> Prop) (E : Value -> Hp -> Prop) : nilK P (.func (.yield l) fi cap) H K E = K (.value (.func (.yield l) fi cap)) H := rfl
def callK (P : Program) (v : Value) (args : Array Value) (H : Hp) (K : Next -> Hp -> Prop) (E : Value -> Hp -> Prop) : Prop := wpS P (do let d <- Deferred.ofValue v args; invoke d.target d.args) H K E
theorem callK_func (f : FuncId) (fi cap args : Array Value) (K : Next -> Hp -> Prop) (E : Value -> Hp -> Prop) : callK P (.func (.func f) fi cap) args H K E = wpS P (callFunc f (fi ++ args ++ cap)) H K E := by
 simp only [callK, Deferred.ofValue]; rw [wpS_bind']; rfl
section ex
variable (ρ : Operand -> Value) (d : Option Tmp) (ty : TypeId) (pos : String) (af : Array Edge) (g : Option (Nat × Bool)) (K : Next -> Hp -> Prop) (E : Value -> Hp -> Prop)
theorem ex_move (x : Operand) : wpS P (execOp ρ ⟨d, .move x, ty, pos, af, g⟩) H K E = K (.value (ρ x)) H := rfl
theorem ex_assign (x : Operand) : wpS P (execOp ρ ⟨d, .assign x, ty, pos, af, g⟩) H K E = K (.value (ρ x)) H := rfl
theorem ex_pick (c x y : Operand) : wpS P (execOp ρ ⟨d, .pick c x y, ty, pos, af, g⟩) H K E = pickK P (ρ c) (ρ x) (ρ y) H K E := rfl
theorem ex_box (t : TypeId) (x : Operand) : wpS P (execOp ρ ⟨d, .box t x, ty, pos, af, g⟩) H K E = ∀ b, H b = none -> K (.value (.pointer (some ⟨b, 0, none⟩))) (H.set b (.cells (ρ x).cells t (0, 0))) := rfl
theorem ex_alloc {t : TypeId} {z : Value} (h : ∀ w, (zeroValue t).run P w = .ok z w) : wpS P (execOp ρ ⟨d, .alloc t, ty, pos, af, g⟩) H K E = ∀ b, H b = none -> K (.value (.pointer (some ⟨b, 0, none⟩))) (H.set b (.cells z.cells t (0, 0))) := by
 simp only [execOp, Instr.alloc]
 rw [wpS_bind', wpS_bind', wpS_zeroValue h]
 rfl
theorem ex_load (t : TypeId) (x : Operand) : wpS P (execOp ρ ⟨d, .load t x, ty, pos, af, g⟩) H K E = wpS P (Instr.loadAt t (ρ x)) H (fun v H' => K (.value v) H') E := wpS_bind' _ _ _ _
theorem ex_store (t : TypeId) (x y : Operand) : wpS P (execOp ρ ⟨d, .store t x y, ty, pos, af, g⟩) H K E = wpS P (Instr.storeAt t (ρ x) (ρ y)) H (fun _ H' => K .skip H') E := wpS_bind' _ _ _ _
theorem ex_fieldAddr (t : TypeId) (x : Operand) (i : Nat) : wpS P (execOp ρ ⟨d, .fieldAddr t x i, ty, pos, af, g⟩) H K E = wpS P (Instr.fieldAt t (ρ x) i) H (fun v H' => K (.value v) H') E := wpS_bind' _ _ _ _
theorem ex_field (t : TypeId) (x : Operand) (i : Nat) : wpS P (execOp ρ ⟨d, .field t x i, ty, pos, af, g⟩) H K E = wpS P (Instr.field t (ρ x) i) H (fun v H' => K (.value v) H') E := wpS_bind' _ _ _ _
theorem ex_indexAddr (t : TypeId) (x y : Operand) : wpS P (execOp ρ ⟨d, .indexAddr t x y, ty, pos, af, g⟩) H K E = wpS P (Instr.indexAt t (ρ x) (ρ y)) H (fun v H' => K (.value v) H') E := wpS_bind' _ _ _ _
theorem ex_index (t : TypeId) (x y : Operand) : wpS P (execOp ρ ⟨d, .index t x y, ty, pos, af, g⟩) H K E = wpS P (Instr.index t (ρ x) (ρ y)) H (fun v H' => K (.value v) H') E := wpS_bind' _ _ _ _
theorem ex_extract (x : Operand) (i : Nat) : wpS P (execOp ρ ⟨d, .extract x i, ty, pos, af, g⟩) H K E = wpS P (Instr.extract (ρ x) i) H (fun v H' => K (.value v) H') E := wpS_bind' _ _ _ _
theorem ex_nil (x : Operand) : wpS P (execOp ρ ⟨d, .nilCheck x, ty, pos, af, g⟩) H K E = nilK P (ρ x) H K E := rfl
theorem ex_bin (op : BinOp) (t u : TypeId) (x y : Operand) : wpS P (execOp ρ ⟨d, .binOp op t x y u, ty, pos, af, g⟩) H K E = wpS P (eqGuard op t x y (ρ x) (ρ y)) H (fun _ H' => wpS P (binOp op t (ρ x) (ρ y)) H' (fun v H₁ => K (.value v) H₁) E) E := by
 simp only [execOp]; rw [wpS_bind', wpS_bind']; rfl
theorem ex_un (op : UnOp) (t : TypeId) (x : Operand) : wpS P (execOp ρ ⟨d, .unOp op t x, ty, pos, af, g⟩) H K E = wpS P (Op.unary op (ρ x)) H (fun v H' => K (.value v) H') E := wpS_bind' _ _ _ _
theorem ex_convert (s t : TypeId) (x : Operand) : wpS P (execOp ρ ⟨d, .convert s t x, ty, pos, af, g⟩) H K E = wpS P (convert s t (ρ x)) H (fun v H' => K (.value v) H') E := wpS_bind' _ _ _ _
theorem ex_makeInterface (t : TypeId) (x : Operand) : wpS P (execOp ρ ⟨d, .makeInterface t x, ty, pos, af, g⟩) H K E = wpS P (Instr.makeInterface t (ρ x)) H (fun v H' => K (.value v) H') E := wpS_bind' _ _ _ _
theorem ex_makeFunc (f : Fn) (fi cap : Array Operand) : wpS P (execOp ρ ⟨d, .makeFunc f fi cap, ty, pos, af, g⟩) H K E = K (.value (.func f (fi.map ρ) (cap.map ρ))) H := rfl
theorem ex_makeMap (t : TypeId) : wpS P (execOp ρ ⟨d, .makeMap t none, ty, pos, af, g⟩) H K E = ∀ b, H b = none -> K (.value (.map (some b))) (H.set b (.map #[] 0)) := rfl
theorem ex_slice (t : TypeId) (x : Operand) (l h m : Option Operand) : wpS P (execOp ρ ⟨d, .slice t x l h m, ty, pos, af, g⟩) H K E = wpS P (Instr.sliceAt t (ρ x) (l.map ρ) (h.map ρ) (m.map ρ)) H (fun v H' => K (.value v) H') E := wpS_bind' _ _ _ _
theorem ex_makeSlice (t : TypeId) (x y : Operand) : wpS P (execOp ρ ⟨d, .makeSlice t x y, ty, pos, af, g⟩) H K E = wpS P (Instr.makeSlice t (ρ x) (ρ y)) H (fun v H' => K (.value v) H') E := wpS_bind' _ _ _ _
theorem ex_build (t : TypeId) (ps : Array (Nat × Operand)) : wpS P (execOp ρ ⟨d, .build t ps, ty, pos, af, g⟩) H K E = wpS P (Instr.build t (ps.map fun (i, x) => (i, ρ x))) H (fun v H' => K (.value v) H') E := wpS_bind' _ _ _ _
theorem ex_buildSlice (t : TypeId) (k : Nat) (ps : Array (Nat × Operand)) : wpS P (execOp ρ ⟨d, .buildSlice t k ps, ty, pos, af, g⟩) H K E = wpS P (Instr.buildSlice t k (ps.map fun (i, x) => (i, ρ x))) H (fun v H' => K (.value v) H') E := wpS_bind' _ _ _ _
theorem ex_lookup (t : TypeId) (x y : Operand) (ok : Bool) : wpS P (execOp ρ ⟨d, .lookup t x y ok, ty, pos, af, g⟩) H K E = wpS P (Instr.lookup t (ρ x) (ρ y) ok) H (fun v H' => K (.value v) H') E := wpS_bind' _ _ _ _
theorem ex_mapUpdate (t : TypeId) (x y z : Operand) : wpS P (execOp ρ ⟨d, .mapUpdate t x y z, ty, pos, af, g⟩) H K E = wpS P (Instr.mapUpdate t (ρ x) (ρ y) (ρ z)) H (fun _ H' => K .skip H') E := wpS_bind' _ _ _ _
theorem ex_typeAssert (x : Operand) (s t : TypeId) (ok : Bool) : wpS P (execOp ρ ⟨d, .typeAssert x s t ok, ty, pos, af, g⟩) H K E = wpS P (Instr.typeAssert (ρ x) s t ok) H (fun v H' => K (.value v) H') E := wpS_bind' _ _ _ _
theorem ex_builtin (b : Builtin) (args : Array Operand) (ats : Array TypeId) : wpS P (execOp ρ ⟨d, .call ⟨.builtin b, args, ats⟩, ty, pos, af, g⟩) H K E = wpS P (builtin b ats ty (args.map fun | .const _ => true | _ => false) (args.map ρ)) H K E := by
 simp only [execOp, resolve]; rw [wpS_bind']; rfl
theorem ex_defer (c : Call) : wpS P (execOp ρ ⟨d, .defer c, ty, pos, af, g⟩) H K E = wpS P (resolve ρ c ty) H (fun x H' => K (.defer x) H') E := wpS_bind' _ _ _ _
end ex
theorem ex_callF (a : Act) (d : Option Tmp) (ty : TypeId) (pos : String) (af : Array Edge) (g : Option (Nat × Bool)) (K : Next -> Hp -> Prop) (E : Value -> Hp -> Prop) {f : FuncId} {args : Array Operand} {ats : Array TypeId} :
  wpS P (execOp a.eval ⟨d, .call ⟨.value (.func f), args, ats⟩, ty, pos, af, g⟩) H K E = wpS P (callFunc f (args.map a.eval)) H K E := by
 simp only [execOp, resolve, eval_func, Deferred.ofValue]
 rw [wpS_bind']
 simp only [wpS_pure, invoke, Array.append_empty, Array.empty_append]
theorem ex_callV (a : Act) (d : Option Tmp) (ty : TypeId) (pos : String) (af : Array Edge) (g : Option (Nat × Bool)) (K : Next -> Hp -> Prop) (E : Value -> Hp -> Prop) {t : Tmp} {args : Array Operand} {ats : Array TypeId} :
 wpS P (execOp a.eval ⟨d, .call ⟨.value (.tmp t), args, ats⟩, ty, pos, af, g⟩) H K E = callK P (a.eval (.tmp t)) (args.map a.eval) H K E := rfl
theorem bin_add (t : TypeId) (k : IntKind) (x y : Int) (K : Value -> Hp -> Prop) (E : Value -> Hp -> Prop) : wpS P (binOp .add t (.int k x) (.int k y)) H K E = K (.int k (k.wrap (x + y))) H := by simp [binOp, Op.intArith, wpS_pure]
theorem bin_sub (t : TypeId) (k : IntKind) (x y : Int) (K : Value -> Hp -> Prop) (E : Value -> Hp -> Prop) : wpS P (binOp .sub t (.int k x) (.int k y)) H K E = K (.int k (k.wrap (x - y))) H := by simp [binOp, Op.intArith, wpS_pure]
theorem bin_mul (t : TypeId) (k : IntKind) (x y : Int) (K : Value -> Hp -> Prop) (E : Value -> Hp -> Prop) : wpS P (binOp .mul t (.int k x) (.int k y)) H K E = K (.int k (k.wrap (x * y))) H := by simp [binOp, Op.intArith, wpS_pure]
theorem bin_rem (t : TypeId) (k : IntKind) (x y : Int) (K : Value -> Hp -> Prop) (E : Value -> Hp -> Prop) (h : y ≠ 0) : wpS P (binOp .rem t (.int k x) (.int k y)) H K E = K (.int k (x.tmod y)) H := by simp [binOp, Op.intDiv, wpS_pure, h]
theorem bin_quo (t : TypeId) (k : IntKind) (x y : Int) (K : Value -> Hp -> Prop) (E : Value -> Hp -> Prop) (h : y ≠ 0) : wpS P (binOp .quo t (.int k x) (.int k y)) H K E = K (.int k (k.wrap (x.tdiv y))) H := by simp [binOp, Op.intDiv, wpS_pure, h]
def bitv (f : (n : Nat) -> BitVec n -> BitVec n -> BitVec n) (k : IntKind) (x y : Int) : Int := k.wrap (f k.bits (BitVec.ofInt k.bits x) (BitVec.ofInt k.bits y)).toNat
theorem bin_and (t : TypeId) (k : IntKind) (x y : Int) (K : Value -> Hp -> Prop) (E : Value -> Hp -> Prop) : wpS P (binOp .and t (.int k x) (.int k y)) H K E = K (.int k (bitv (fun _ a b => a &&& b) k x y)) H := by simp [binOp, Op.intBits, wpS_pure, bitv]
theorem bin_or (t : TypeId) (k : IntKind) (x y : Int) (K : Value -> Hp -> Prop) (E : Value -> Hp -> Prop) : wpS P (binOp .or t (.int k x) (.int k y)) H K E = K (.int k (bitv (fun _ a b => a ||| b) k x y)) H := by simp [binOp, Op.intBits, wpS_pure, bitv]
theorem bin_xor (t : TypeId) (k : IntKind) (x y : Int) (K : Value -> Hp -> Prop) (E : Value -> Hp -> Prop) : wpS P (binOp .xor t (.int k x) (.int k y)) H K E = K (.int k (bitv (fun _ a b => a ^^^ b) k x y)) H := by simp [binOp, Op.intBits, wpS_pure, bitv]
theorem bin_andNot (t : TypeId) (k : IntKind) (x y : Int) (K : Value -> Hp -> Prop) (E : Value -> Hp -> Prop) : wpS P (binOp .andNot t (.int k x) (.int k y)) H K E = K (.int k (bitv (fun _ a b => a &&& ~~~b) k x y)) H := by simp [binOp, Op.intBits, wpS_pure, bitv]
theorem bin_shl (t : TypeId) (k j : IntKind) (x y : Int) (K : Value -> Hp -> Prop) (E : Value -> Hp -> Prop) (h : 0 <= y) : wpS P (binOp .shl t (.int k x) (.int j y)) H K E = K (.int k (k.wrap (x * 2 ^ (min y.toNat k.bits)))) H := by
 have : ¬ y < 0 := by omega
 simp [binOp, Op.shift, wpS_pure, this]
theorem bin_shr (t : TypeId) (k j : IntKind) (x y : Int) (K : Value -> Hp -> Prop) (E : Value -> Hp -> Prop) (h : 0 <= y) : wpS P (binOp .shr t (.int k x) (.int j y)) H K E = K (.int k (x.fdiv (2 ^ (min y.toNat k.bits)))) H := by
 have : ¬ y < 0 := by omega
 simp [binOp, Op.shift, wpS_pure, this]
theorem bin_eql (t : TypeId) (k : IntKind) (x y : Int) (K : Value -> Hp -> Prop) (E : Value -> Hp -> Prop) : wpS P (binOp .eql t (.int k x) (.int k y)) H K E = K (.bool (x == y)) H := by simp [binOp, Op.intCmp, wpS_pure]
theorem bin_neq (t : TypeId) (k : IntKind) (x y : Int) (K : Value -> Hp -> Prop) (E : Value -> Hp -> Prop) : wpS P (binOp .neq t (.int k x) (.int k y)) H K E = K (.bool (x != y)) H := by simp [binOp, Op.intCmp, wpS_pure]
theorem bin_lss (t : TypeId) (k : IntKind) (x y : Int) (K : Value -> Hp -> Prop) (E : Value -> Hp -> Prop) : wpS P (binOp .lss t (.int k x) (.int k y)) H K E = K (.bool (decide (x < y))) H := by simp [binOp, Op.intCmp, wpS_pure]
theorem bin_leq (t : TypeId) (k : IntKind) (x y : Int) (K : Value -> Hp -> Prop) (E : Value -> Hp -> Prop) : wpS P (binOp .leq t (.int k x) (.int k y)) H K E = K (.bool (decide (x <= y))) H := by simp [binOp, Op.intCmp, wpS_pure]
theorem bin_gtr (t : TypeId) (k : IntKind) (x y : Int) (K : Value -> Hp -> Prop) (E : Value -> Hp -> Prop) : wpS P (binOp .gtr t (.int k x) (.int k y)) H K E = K (.bool (decide (y < x))) H := by simp [binOp, Op.intCmp, wpS_pure]
theorem bin_geq (t : TypeId) (k : IntKind) (x y : Int) (K : Value -> Hp -> Prop) (E : Value -> Hp -> Prop) : wpS P (binOp .geq t (.int k x) (.int k y)) H K E = K (.bool (decide (y <= x))) H := by simp [binOp, Op.intCmp, wpS_pure]
theorem eqG_int (op : BinOp) (t : TypeId) (x y : Operand) (k j : IntKind) (a b : Int) (K : Unit -> Hp -> Prop) (E : Value -> Hp -> Prop) : wpS P (eqGuard op t x y (.int k a) (.int j b)) H K E = K () H := by
 unfold eqGuard; cases op <;> rfl
theorem un_not (b : Bool) (K : Value -> Hp -> Prop) (E : Value -> Hp -> Prop) : wpS P (Op.unary .not (.bool b)) H K E = K (.bool (!b)) H := rfl
theorem un_neg (k : IntKind) (x : Int) (K : Value -> Hp -> Prop) (E : Value -> Hp -> Prop) : wpS P (Op.unary .neg (.int k x)) H K E = K (.int k (k.wrap (0 - x))) H := rfl
theorem conv_int {s t : TypeId} {j k : IntKind} (hs : P.underlying s = some (.int j)) (ht : P.underlying t = some (.int k)) (i : IntKind) (x : Int) (K : Value -> Hp -> Prop) (E : Value -> Hp -> Prop) :
  wpS P (convert s t (.int i x)) H K E = K (.int k (k.wrap x)) H := by
 unfold convert
 rw [wpS_bind', wpS_underlying hs, wpS_bind', wpS_underlying ht]
 rfl
theorem w64 (x : Int) (h1 : -9223372036854775808 <= x) (h2 : x <= 9223372036854775807) : IntKind.i64.wrap x = x := by rw [IntKind.wrap_i64]; omega
theorem get_set (b b' : Nat) (o : Obj) : (H.set b o) b' = if b' = b then some (true, o) else H b' := rfl
theorem wpS_load (a : Addr) (K : Value -> Hp -> Prop) (E : Value -> Hp -> Prop) : wpS P (load a) H K E = ∃ v, H.cell a = some v /\ K v H := by simp [load, wpS]
theorem loadAt_one {t : TypeId} {d : TypeDesc} (h : P.underlying t = some d) (hd : aggB d = false) (a : Addr) (K : Value -> Hp -> Prop) (E : Value -> Hp -> Prop) :
  wpS P (Instr.loadAt t (.pointer (some a))) H K E = ∃ v, H.cell a = some v /\ K v H := by
 unfold Instr.loadAt
 rw [wpS_bind']
 simp only [Instr.sureAddr, wpS_pure, loadVar]
 rw [wpS_bind', wpS_isAgg h, hd]
 simp only [Bool.false_eq_true, if_false]
 exact wpS_load _ _ _
@[congr] theorem wpS_congr {α : Type} {s s' : Sem α} {H H' : Hp} {K : α -> Hp -> Prop} {E : Value -> Hp -> Prop} (hs : s = s') (hH : H = H') : wpS P s H K E = wpS P s' H' K E := by subst hs hH; rfl
@[congr] theorem numX_congr {ops : Array Oper} {i : Nat} {K : Act -> Hp -> Prop} {a a' : Act} {H H' : Hp} (ha : a = a') (hH : H = H') : numX P main lp ops i Q K a H = numX P main lp ops i Q K a' H' := by subst ha hH; rfl
@[congr] theorem runX_congr {ops : Array Oper} {todo : List Nat} {a a' : Act} {H H' : Hp} (ha : a = a') (hH : H = H') : runX P main lp ops Q todo a H = runX P main lp ops Q todo a' H' := by subst ha hH; rfl
@[congr] theorem opX_congr {o : Oper} {K : Act -> Hp -> Prop} {a a' : Act} {H H' : Hp} (ha : a = a') (hH : H = H') : opX P main lp o a H K Q = opX P main lp o a' H' K Q := by subst ha hH; rfl
@[congr] theorem uponX_congr {o : Oper} {K : Act -> Hp -> Prop} {a : Act} {x x' : Next} {H H' : Hp} (hx : x = x') (hH : H = H') : uponX P main lp o a K Q x H = uponX P main lp o a K Q x' H' := by subst hx hH; rfl
@[congr] theorem pickK_congr {c c' x x' y y' : Value} {K : Next -> Hp -> Prop} {E : Value -> Hp -> Prop} {H H' : Hp} (hc : c = c') (hx : x = x') (hy : y = y') (hH : H = H') : pickK P c x y H K E = pickK P c' x' y' H' K E := by subst hc hx hy hH; rfl
@[congr] theorem nilK_congr {c c' : Value} {K : Next -> Hp -> Prop} {E : Value -> Hp -> Prop} {H H' : Hp} (hc : c = c') (hH : H = H') : nilK P c H K E = nilK P c' H' K E := by subst hc hH; rfl
@[congr] theorem callK_congr {c c' : Value} {args args' : Array Value} {K : Next -> Hp -> Prop} {E : Value -> Hp -> Prop} {H H' : Hp} (hc : c = c') (ha : args = args') (hH : H = H') : callK P c args H K E = callK P c' args' H' K E := by subst hc ha hH; rfl
@[congr] theorem Runs_congr {fr fr' : Frame} {R : Ending -> Hp -> Prop} {H H' : Hp} (hf : fr = fr') (hH : H = H') : Runs P main fr H R = Runs P main fr' H' R := by subst hf hH; rfl
@[congr] theorem wpX_congr {c : Code} {a a' : Act} {H H' : Hp} (ha : a = a') (hH : H = H') : wpX P main lp c Q a H = wpX P main lp c Q a' H' := by subst ha hH; rfl
@[congr] theorem planX_congr {S : Hp -> Prop} {t : Nat} {ops : Array Oper} {todo : List (Bool × Nat)} {a a' : Act} {H H' : Hp} (ha : a = a') (hH : H = H') : planX P main lp ops Q S t todo a H = planX P main lp ops Q S t todo a' H' := by subst ha hH; rfl
end
end Go.X
end
section
namespace Go.X
open Go
def only (K : Act -> Hp -> Prop) : Exit -> Act -> Hp -> Prop
 | .normal, a, H => K a H
 | _, _, _ => False
section
variable {P : Program} {main : Md} {lp : Option Nat} {Q : Exit -> Act -> Hp -> Prop} {a : Act} {H : Hp}
theorem numX_weaken {ops : Array Oper} {i : Nat} {Q' : Exit -> Act -> Hp -> Prop} {K K' : Act -> Hp -> Prop} (hQ : ∀ c a H, Q (.panic c) a H -> Q' (.panic c) a H) (hK : ∀ a H, K a H -> K' a H) (h : numX P main lp ops i Q K a H) : numX P main lp ops i Q' K' a H := by
 unfold numX at *
 cases ho : ops[i]? with
 | none => rw [ho] at h; exact hK _ _ h
 | some o =>
  rw [ho] at h
  simp only [] at h ⊢
  split
  ·rename_i hw
   rw [if_pos hw] at h
   refine ⟨h.1, ?_⟩
   unfold opX at *
   refine wpS_mono h.2 (fun x H' hx => ?_) fun v H' hv => hQ _ _ _ hv
   cases x <;> simp only [uponX] at hx ⊢
   case value v => exact hK _ _ hx
   case skip => exact hK _ _ hx
   case defer d => exact ⟨hx.1, hK _ _ hx.2⟩
   case enter f args => exact hx.mono fun e H₁ he => by cases e with
    | returned v => exact hK _ _ he
    | panicked c => exact hQ _ _ _ he
    | outgrown => exact he
   case round l f tmps ars body => exact hx.mono fun e H₁ he => by cases e with
    | returned v => exact hK _ _ he
    | panicked c => exact hQ _ _ _ he
    | outgrown => exact he
  ·rename_i hw; rw [if_neg hw] at h; exact hK _ _ h
theorem only_run {ops : Array Oper} : ∀ {todo : List Nat} {a : Act} {H : Hp} {K : Act -> Hp -> Prop}, runX P main lp ops (only K) todo a H -> (∀ a H, K a H -> Q .normal a H) -> runX P main lp ops Q todo a H
 | [], _, _, _, h, hK => hK _ _ h
 | _ :: _, _, _, _, h, hK => numX_weaken (fun _ _ _ h => h.elim) (fun _ _ h => only_run h hK) h
theorem wpX_stmt {id : Nat} {ops : Array Oper} {y : Code} (h : ∀ K : Act -> Hp -> Prop, (∀ a' H', wpX P main lp y Q a' H' -> K a' H') -> runX P main lp ops (only K) (List.range ops.size) a H) :
  wpX P main lp (.seq (.region id ops false) y) Q a H :=
 wpX_seq (wpX_text (only_run (h _ fun _ _ h => h) fun _ _ h => h))
theorem wpX_last {id : Nat} {ops : Array Oper} (h : ∀ K : Act -> Hp -> Prop, (∀ a' H', Q .normal a' H' -> K a' H') -> runX P main lp ops (only K) (List.range ops.size) a H) :
  wpX P main lp (.region id ops false) Q a H :=
 wpX_text (only_run (h _ fun _ _ h => h) fun _ _ h => h)
theorem wpX_dstmt {id : Nat} {ops : Array Oper} {y : Code} (S : Hp -> Prop) (t : Nat) (plan : List (Bool × Nat)) (hm : P.follows .mixedOrders = true) (hsel : Region.noSelect ops = true) (hlen : plan.length <= ops.size)
  (hok : planOK ops t (marked ops (List.range ops.size).reverse ((Array.replicate ops.size false).setIfInBounds t true)) plan (Array.replicate ops.size false) = true)
  (h : ∀ K : Act -> Hp -> Prop, (∀ a' H', wpX P main lp y Q a' H' -> K a' H') -> planX P main lp ops (only K) S t plan a H) :
  wpX P main lp (.seq (.region id ops true) y) Q a H := by
 refine wpX_seq ?_
 refine wpX_mono (Q := only fun a' H' => wpX P main lp y Q a' H') (wpX_plan S t plan hm hsel hlen hok (fun c a H d v h => h) (h _ fun _ _ h => h)) fun e a H q => ?_
 cases e <;> first | exact q | exact q.elim
theorem wpX_dlast {id : Nat} {ops : Array Oper} (S : Hp -> Prop) (t : Nat) (plan : List (Bool × Nat)) (hm : P.follows .mixedOrders = true) (hsel : Region.noSelect ops = true) (hlen : plan.length <= ops.size)
  (hok : planOK ops t (marked ops (List.range ops.size).reverse ((Array.replicate ops.size false).setIfInBounds t true)) plan (Array.replicate ops.size false) = true)
  (h : ∀ K : Act -> Hp -> Prop, (∀ a' H', Q .normal a' H' -> K a' H') -> planX P main lp ops (only K) S t plan a H) :
  wpX P main lp (.region id ops true) Q a H := by
 refine wpX_mono (Q := only fun a' H' => Q .normal a' H') (wpX_plan S t plan hm hsel hlen hok (fun c a H d v h => h) (h _ fun _ _ h => h)) fun e a H q => ?_
 cases e <;> first | exact q | exact q.elim
theorem wpX_dst0 {id : Nat} {ops : Array Oper} {y : Code} (t : Nat) (plan : List (Bool × Nat)) (hm : P.follows .mixedOrders = true) (hsel : Region.noSelect ops = true) (hlen : plan.length <= ops.size)
 (hok : planOK ops t (marked ops (List.range ops.size).reverse ((Array.replicate ops.size false).setIfInBounds t true)) plan (Array.replicate ops.size false) = true)
 (h : ∀ K : Act -> Hp -> Prop, (∀ a' H', wpX P main lp y Q a' H' -> K a' H') -> planX P main lp ops (only K) (· = H) t plan a H) :
 wpX P main lp (.seq (.region id ops true) y) Q a H := wpX_dstmt _ t plan hm hsel hlen hok h
theorem wpX_dst1 {id : Nat} {ops : Array Oper} (t : Nat) (plan : List (Bool × Nat)) (hm : P.follows .mixedOrders = true) (hsel : Region.noSelect ops = true) (hlen : plan.length <= ops.size)
 (hok : planOK ops t (marked ops (List.range ops.size).reverse ((Array.replicate ops.size false).setIfInBounds t true)) plan (Array.replicate ops.size false) = true)
 (h : ∀ K : Act -> Hp -> Prop, (∀ a' H', Q .normal a' H' -> K a' H') -> planX P main lp ops (only K) (· = H) t plan a H) :
 wpX P main lp (.region id ops true) Q a H := wpX_dlast _ t plan hm hsel hlen hok h
theorem wpX_cut {x y : Code} (M : Act -> Hp -> Prop) (hx : wpX P main lp x (thn M Q) a H) (hy : ∀ a H, M a H -> wpX P main lp y Q a H) : wpX P main lp (.seq x y) Q a H :=
 wpX_seq (wpX_mono hx fun e a' H' q => by cases e <;> first | exact hy _ _ q | exact q)
theorem plan_take {H : Hp} {t i : Nat} {ops : List Oper} {o : Oper} {rest : List (Bool × Nat)} {v : Value} (ho : ops[i]? = some o) (hw : Region.wanted o (yielded ops.toArray a.tmps) = true) (hf : fine lp o = true)
  (h : wpS P (execOp a.eval o) H (YN P main v H) fun _ _ => False) (hk : planX P main lp ops.toArray Q (· = H) t rest (a.put o.dst v) H) : planX P main lp ops.toArray Q (· = H) t ((true, i) :: rest) a H :=
 ⟨rfl, o, by simpa using ho, v, .inl ⟨hw, hf, fun _ e => e ▸ h⟩, hk⟩
theorem plan_skip {H : Hp} {t i : Nat} {ops : List Oper} {o : Oper} {rest : List (Bool × Nat)} (ho : ops[i]? = some o) (hw : Region.wanted o (yielded ops.toArray a.tmps) = false)
  (hk : planX P main lp ops.toArray Q (· = H) t rest (a.put o.dst undef) H) : planX P main lp ops.toArray Q (· = H) t ((true, i) :: rest) a H :=
 ⟨rfl, o, by simpa using ho, undef, .inr ⟨hw, rfl⟩, hk⟩
theorem plan_tail {H : Hp} {t : Nat} {ops : Array Oper} (h : numX P main lp ops t Q (Q .normal) a H) : planX P main lp ops Q (· = H) t [(false, t)] a H :=
 numX_mono (fun _ _ h => ⟨.inl rfl, h⟩) h
theorem plan_nil {S : Hp -> Prop} {t : Nat} {ops : Array Oper} (h : Q .normal a H) : planX P main lp ops Q S t [] a H := h
theorem YN_value {v u : Value} {H' : Hp} : YN P main v H (.value u) H' = (u = v /\ H' = H) := rfl
theorem YN_enter {v : Value} {f : FuncId} {args : Array Value} {H' : Hp} : YN P main v H (.enter f args) H' = Runs P main (Frame.enter P f args .normal) H' fun
      | .returned u, H₁ => u = v /\ H₁ = H
      | _, _ => False := rfl
theorem quiet_of {f : FuncId} {args : Array Value} {v : Value} (h : FnX P main f args H fun e H' => e = .returned v /\ H' = H) : Runs P main (Frame.enter P f args .normal) H fun
  | .returned u, H₁ => u = v /\ H₁ = H
  | _, _ => False :=
 h.runs.mono fun e H₁ he => by obtain ⟨rfl, rfl⟩ := he; exact ⟨rfl, rfl⟩
theorem runX_nil {ops : Array Oper} : runX P main lp ops Q [] a H = Q .normal a H := rfl
theorem runX_cons {ops : Array Oper} {i : Nat} {rest : List Nat} : runX P main lp ops Q (i :: rest) a H = numX P main lp ops i Q (runX P main lp ops Q rest) a H := rfl
theorem numX_eq {ops : Array Oper} {i : Nat} {K : Act -> Hp -> Prop} : numX P main lp ops i Q K a H = match ops[i]? with
 | none => K a H
 | some o => if Region.wanted o (yielded ops a.tmps) then fine lp o = true /\ opX P main lp o a H K Q else K (a.put o.dst undef) H := rfl
theorem opX_eq {o : Oper} {K : Act -> Hp -> Prop} : opX P main lp o a H K Q = wpS P (execOp a.eval o) H (uponX P main lp o a K Q) fun v H₁ => Q (.panic [{ v, recovered := false }]) a H₁ := rfl
theorem uponX_value {o : Oper} {K : Act -> Hp -> Prop} (v : Value) : uponX P main lp o a K Q (.value v) H = K (a.put o.dst v) H := rfl
theorem uponX_skip {o : Oper} {K : Act -> Hp -> Prop} : uponX P main lp o a K Q .skip H = K (a.put o.dst undef) H := rfl
theorem only_normal {K : Act -> Hp -> Prop} : only K .normal a H = K a H := rfl
theorem wanted_none {d : Option Tmp} {op : Op} {ty : TypeId} {pos : String} {af : Array Edge} {y : Nat -> Option Bool} : Region.wanted ⟨d, op, ty, pos, af, none⟩ y = true := rfl
theorem wanted_some {d : Option Tmp} {op : Op} {ty : TypeId} {pos : String} {af : Array Edge} {y : Nat -> Option Bool} {j : Nat} {b : Bool} : Region.wanted ⟨d, op, ty, pos, af, some (j, b)⟩ y = (y j == some b) := rfl
theorem add_eq (b o n : Nat) : (⟨b, o, none⟩ : Addr).add n = ⟨b, o + n, none⟩ := by
 unfold Addr.add; split
 ·rename_i h; subst h; rfl
 ·rfl
theorem cell_of {b o : Nat} {p : Bool} {c : Array Value} {e : TypeId} {f : Nat × Nat} (h : H b = some (p, .cells c e f)) : H.cell ⟨b, o, none⟩ = c[o]? := by simp [Hp.cell, h]
theorem cells_one {v : Value} (h : one v = true) : v.cells = #[v] := by cases v <;> first | rfl | (simp [one] at h; done)
def stor (H : Hp) (b o : Nat) (v : Value) (K : Hp -> Prop) : Prop :=
 match H b with
 | some (true, .cells c e (lo, hi)) => o < c.size /\ (decide (lo <= o) && decide (o < hi)) = false /\ K (H.set b (.cells (c.setIfInBounds o v) e (lo, hi)))
 | _ => False
theorem stor_at {b o : Nat} {v : Value} {K : Hp -> Prop} {c : Array Value} {e : TypeId} (h : H b = some (true, .cells c e (0, 0))) : stor H b o v K = (o < c.size /\ K (H.set b (.cells (c.setIfInBounds o v) e (0, 0)))) := by
 simp [stor, h]
theorem cell_set_same {b o : Nat} {c : Array Value} {e : TypeId} {f : Nat × Nat} : (H.set b (.cells c e f)).cell ⟨b, o, none⟩ = c[o]? := by simp [Hp.cell, Hp.set]
theorem cell_set_ne {b b' o : Nat} {ob : Obj} (h : b ≠ b') : (H.set b' ob).cell ⟨b, o, none⟩ = H.cell ⟨b, o, none⟩ := by simp [Hp.cell, Hp.set, h]
theorem stor_set_same {b o : Nat} {v : Value} {K : Hp -> Prop} {c : Array Value} {e : TypeId} : stor (H.set b (.cells c e (0, 0))) b o v K = (o < c.size /\ K (H.set b (.cells (c.setIfInBounds o v) e (0, 0)))) := by
 have : (H.set b (.cells c e (0, 0))).set b (.cells (c.setIfInBounds o v) e (0, 0)) = H.set b (.cells (c.setIfInBounds o v) e (0, 0)) := by
  funext x; unfold Hp.set; split <;> rfl
 rw [stor_at (c := c) (e := e) (by simp [Hp.set]), this]
theorem set_set {b : Nat} {o o' : Obj} : (H.set b o).set b o' = H.set b o' := by funext x; unfold Hp.set; split <;> rfl
theorem set_self {b : Nat} {o : Obj} (h : H b = some (true, o)) : H.set b o = H := by funext x; unfold Hp.set; split <;> simp_all
theorem wpS_store {v : Value} (hv : one v = true) (b o : Nat) (K : Unit -> Hp -> Prop) (E : Value -> Hp -> Prop) : wpS P (store ⟨b, o, none⟩ v) H K E = stor H b o v (K ()) := by
 simp only [store, wpS, stor, hv, true_and]
 rcases hb : H b with _ | ⟨p, ob⟩
 ·simp
 ·cases p
  ·simp
  ·cases ob <;> simp
   rename_i c e fr
   obtain ⟨lo, hi⟩ := fr
   constructor
   ·rintro ⟨c', e', lo', hi', h, h'⟩
    simp only [Prod.mk.injEq] at h
    obtain ⟨rfl, rfl, rfl, rfl⟩ := h
    simpa using h'
   ·intro h'
    exact ⟨c, e, lo, hi, by simp, by simpa using h'⟩
theorem storeAt_one {t : TypeId} (hs : ∀ w, (sizeOf t).run P w = .ok 1 w) {v : Value} (hv : one v = true) (b o : Nat) (K : Unit -> Hp -> Prop) (E : Value -> Hp -> Prop) :
  wpS P (Instr.storeAt t (.pointer (some ⟨b, o, none⟩)) v) H K E = stor H b o v (K ()) := by
 unfold Instr.storeAt
 rw [wpS_bind']
 simp only [Instr.sureAddr, wpS_pure, storeVar]
 rw [wpS_bind', wpS_sizeOf hs, cells_one hv]
 simp only [List.size_toArray, List.length_cons, List.length_nil, Nat.zero_add, ne_eq, not_true, if_false, storeCells, add_eq, Nat.add_zero]
 rw [wpS_bind', wpS_store hv]
 rfl
section
variable {t : TypeId} (hs : ∀ w, (sizeOf t).run P w = .ok 1 w) (b o : Nat) (K : Unit -> Hp -> Prop) (E : Value -> Hp -> Prop)
include hs
theorem storeAt_int (k : IntKind) (x : Int) : wpS P (Instr.storeAt t (.pointer (some ⟨b, o, none⟩)) (.int k x)) H K E = stor H b o (.int k x) (K ()) := storeAt_one hs rfl b o K E
theorem storeAt_bool (x : Bool) : wpS P (Instr.storeAt t (.pointer (some ⟨b, o, none⟩)) (.bool x)) H K E = stor H b o (.bool x) (K ()) := storeAt_one hs rfl b o K E
theorem storeAt_ptr (x : Option Addr) : wpS P (Instr.storeAt t (.pointer (some ⟨b, o, none⟩)) (.pointer x)) H K E = stor H b o (.pointer x) (K ()) := storeAt_one hs rfl b o K E
theorem storeAt_slice (x : Option Addr) (n c : Nat) : wpS P (Instr.storeAt t (.pointer (some ⟨b, o, none⟩)) (.slice x n c)) H K E = stor H b o (.slice x n c) (K ()) := storeAt_one hs rfl b o K E
theorem storeAt_map (x : Option Nat) : wpS P (Instr.storeAt t (.pointer (some ⟨b, o, none⟩)) (.map x)) H K E = stor H b o (.map x) (K ()) := storeAt_one hs rfl b o K E
theorem storeAt_func (f : Fn) (x y : Array Value) : wpS P (Instr.storeAt t (.pointer (some ⟨b, o, none⟩)) (.func f x y)) H K E = stor H b o (.func f x y) (K ()) := storeAt_one hs rfl b o K E
theorem storeAt_nilFunc : wpS P (Instr.storeAt t (.pointer (some ⟨b, o, none⟩)) .nilFunc) H K E = stor H b o .nilFunc (K ()) := storeAt_one hs rfl b o K E
end
theorem fieldAt_eq {s : TypeId} {fs : Array Field} (hu : P.underlying s = some (.struct fs)) {i : Nat} {f : Field} (hf : fs[i]? = some f) {off : Nat} (ho : f.offset = off) {n : Nat} (hs : ∀ w, (sizeOf f.type).run P w = .ok (n + 1) w) (b o : Nat) (K : Value -> Hp -> Prop) (E : Value -> Hp -> Prop) :
  wpS P (Instr.fieldAt s (.pointer (some ⟨b, o, none⟩)) i) H K E = K (.pointer (some ⟨b, o + off, none⟩)) H := by
 subst ho
 unfold Instr.fieldAt
 rw [wpS_bind', wpS_underlying hu]
 simp only [hf, Instr.sureAddr]
 rw [wpS_bind']
 simp only [wpS_pure]
 rw [wpS_bind']
 unfold fieldPlace
 rw [wpS_bind', wpS_sizeOf hs]
 simp only [Nat.succ_ne_zero, if_false, wpS_pure, add_eq]
theorem indexAt_slice {t e : TypeId} (hu : P.underlying t = some (.slice e)) {n : Nat} (hs : ∀ w, (sizeOf e).run P w = .ok n w) (b o len cap : Nat) (k : IntKind) (i : Int) (K : Value -> Hp -> Prop) (E : Value -> Hp -> Prop) (h0 : 0 <= i) (h1 : i < len) :
  wpS P (Instr.indexAt t (.slice (some ⟨b, o, none⟩) len cap) (.int k i)) H K E = K (.pointer (some ⟨b, o + i.toNat * n, none⟩)) H := by
 unfold Instr.indexAt
 rw [wpS_bind']
 simp only [asIntOf, wpS_pure]
 simp only [wpS_bind', wpS_underlying hu, wpS_pure, h0, h1, and_self, if_true, wpS_sizeOf hs, add_eq]
theorem len_slice {t e : TypeId} (hu : P.underlying t = some (.slice e)) (ty : TypeId) (cs : Array Bool) (a : Option Addr) (len cap : Nat) (K : Next -> Hp -> Prop) (E : Value -> Hp -> Prop) :
  wpS P (builtin .len #[t] ty cs #[.slice a len cap]) H K E = K (.value (.int .i64 len)) H := by
 simp only [builtin, Builtin.len_, List.getElem?_toArray, List.getElem?_cons_zero]
 rw [wpS_bind', wpS_bind', wpS_underlying hu]
 rfl
theorem results_one {fn : Func} {t : Tmp} (h : fn.results = #[.tmp t]) {n : Nat} {e : Nat -> Value} {ds : List Deferred} (ht : t < n) (K : Value -> Hp -> Prop) (E : Value -> Hp -> Prop) :
  wpS P (results fn (act n e ds).tmps) H K E = K (e t) H := by
 simp [results, h, act_get? ht, wpS_pure]
theorem results_two {fn : Func} {t u : Tmp} (h : fn.results = #[.tmp t, .tmp u]) {n : Nat} {e : Nat -> Value} {ds : List Deferred} (ht : t < n) (hu : u < n) (K : Value -> Hp -> Prop) (E : Value -> Hp -> Prop) :
  wpS P (results fn (act n e ds).tmps) H K E = K (.tuple #[e t, e u]) H := by
 simp [results, h, act_get? ht, act_get? hu, wpS_pure]
theorem results_zero {fn : Func} (h : fn.results = #[]) (tmps : Array Value) (K : Value -> Hp -> Prop) (E : Value -> Hp -> Prop) :
  wpS P (results fn tmps) H K E = K (.tuple #[]) H := by
 simp [results, h, wpS_pure]
@[congr] theorem stor_congr {H' : Hp} {b o b' o' : Nat} {v v' : Value} {K : Hp -> Prop} (hH : H = H') (hb : b = b') (ho : o = o') (hv : v = v') : stor H b o v K = stor H' b' o' v' K := by subst hH hb ho hv; rfl
end
end Go.X
end
section
namespace Go.X
open Go
def NewRow (H₀ H : Hp) (v : Value) (e : TypeId) (sz n : Nat) (cs : List Value) : Prop :=
 (v = .slice none 0 0 /\ n = 0 /\ cs = [] /\ H = H₀) ∨
 ∃ (b : Nat) (c : Array Value) (cap : Nat), H₀ b = none /\ H = H₀.set b (.cells c e (0, 0)) /\ v = .slice (some ⟨b, 0, none⟩) n cap /\ c.size = cap * sz /\ cs.length = n * sz /\ n <= cap /\ ∀ (i : Nat) (u : Value), cs[i]? = some u -> c[i]? = some u
theorem NewRow.nil (H : Hp) (e : TypeId) (sz : Nat) : NewRow H H (.slice none 0 0) e sz 0 [] := .inl ⟨rfl, rfl, rfl, rfl⟩
theorem NewRow.le {H₀ H : Hp} {v : Value} {e : TypeId} {sz n : Nat} {cs : List Value} (h : NewRow H₀ H v e sz n cs) : H₀.le H := by
 rcases h with ⟨_, _, _, rfl⟩ | ⟨b, c, cap, hb, rfl, _⟩
 ·exact Hp.le_refl _
 ·exact Hp.le_set hb
theorem NewRow.len {H₀ H : Hp} {v : Value} {e : TypeId} {sz n : Nat} {cs : List Value} (h : NewRow H₀ H v e sz n cs) : cs.length = n * sz := by
 rcases h with ⟨_, rfl, rfl, _⟩ | ⟨b, c, cap, _, _, _, _, hl, _⟩
 ·simp
 ·exact hl
theorem Hp.set_le {H H' : Hp} {b : Nat} {o : Obj} (h : H.le H') : (H.set b o).le (H'.set b o) := fun x v hv => by
 unfold Hp.set at *
 split at hv
 ·rename_i hx; rw [if_pos hx]; exact hv
 ·rename_i hx; rw [if_neg hx]; exact h _ _ hv
theorem Hp.le_none {H H' : Hp} {b : Nat} (h : H.le H') (hb : H' b = none) : H b = none := by
 cases hx : H b with
 | none => rfl
 | some v => rw [h b v hx] at hb; cases hb
section
variable {P : Program} {H : Hp}
theorem wpS_loadCellsFrom (b o : Nat) (K : Array Value -> Hp -> Prop) (E : Value -> Hp -> Prop) : ∀ (n i : Nat) (acc : Array Value) (cs : List Value), cs.length = n -> (∀ j u, cs[j]? = some u -> H.cell ⟨b, o + (i + j), none⟩ = some u) ->
  wpS P (loadCellsFrom ⟨b, o, none⟩ i n acc) H K E = K (acc ++ cs.toArray) H
 | 0, i, acc, cs, hl, _ => by
  have : cs = [] := by simpa using hl
  subst this
  simp [loadCellsFrom, wpS_pure]
 | n + 1, i, acc, cs, hl, hc => by
  cases cs with
  | nil => simp at hl
  | cons u cs =>
   unfold loadCellsFrom
   rw [wpS_bind']
   simp only [add_eq]
   have h0 : H.cell ⟨b, o + i, none⟩ = some u := by have := hc 0 u (by simp); simpa using this
   rw [wpS_load]
   simp only [h0, Option.some.injEq, exists_eq_left']
   rw [wpS_loadCellsFrom b o K E n (i + 1) (acc.push u) cs (by simpa using hl) (fun j w hj => by
    have := hc (j + 1) w (by simpa using hj)
    rw [show o + (i + 1 + j) = o + (i + (j + 1)) from by omega]; exact this)]
   simp
theorem wpS_loadCells {b o n : Nat} {cs : List Value} (hl : cs.length = n) (hc : ∀ j u, cs[j]? = some u -> H.cell ⟨b, o + j, none⟩ = some u) (K : Array Value -> Hp -> Prop) (E : Value -> Hp -> Prop) :
  wpS P (loadCells ⟨b, o, none⟩ n) H K E = K cs.toArray H := by
 unfold loadCells
 rw [wpS_loadCellsFrom b o K E n 0 #[] cs hl (by simpa using hc)]
 simp
def over (c : Array Value) (o : Nat) (vs : List Value) : Array Value := Array.ofFn fun i : Fin c.size => if o <= i.val /\ i.val < o + vs.length then vs.getD (i.val - o) undef else c[i]
theorem over_size {c : Array Value} {o : Nat} {vs : List Value} : (over c o vs).size = c.size := by simp [over]
theorem over_get {c : Array Value} {o : Nat} {vs : List Value} (i : Nat) (hi : i < c.size) : (over c o vs)[i]? = if o <= i /\ i < o + vs.length then some (vs.getD (i - o) undef) else c[i]? := by
 simp only [over, Array.getElem?_ofFn, hi, dif_pos]
 split <;> simp
theorem over_cons {c : Array Value} {o : Nat} {v : Value} {vs : List Value} (h : o < c.size) : over (c.setIfInBounds o v) (o + 1) vs = over c o (v :: vs) := by
 apply Array.ext_getElem?
 intro i
 by_cases hi : i < c.size
 ·rw [over_get i (by simpa using hi), over_get i hi]
  simp only [List.length_cons]
  by_cases h1 : o + 1 <= i /\ i < o + 1 + vs.length
  ·rw [if_pos h1, if_pos ⟨by omega, by omega⟩]
   have : i - o = (i - (o + 1)) + 1 := by omega
   rw [this]; simp
  ·rw [if_neg h1]
   by_cases h2 : i = o
   ·subst h2; rw [if_pos ⟨by omega, by omega⟩]; simp [hi]
   ·rw [if_neg (by omega)]
    rw [Array.getElem?_setIfInBounds_ne (by omega)]
 ·rw [Array.getElem?_eq_none (by simp [over_size]; omega), Array.getElem?_eq_none (by simp [over_size]; omega)]
theorem over_nil {c : Array Value} {o : Nat} : over c o [] = c := by
 apply Array.ext_getElem?
 intro i
 by_cases hi : i < c.size
 ·rw [over_get i hi, if_neg (by intro h; simp at h; omega)]
 ·rw [Array.getElem?_eq_none (by simp [over_size]; omega), Array.getElem?_eq_none (by omega)]
theorem wpS_storeCells (b o : Nat) (K : Unit -> Hp -> Prop) (E : Value -> Hp -> Prop) : ∀ (vs : List Value) (i : Nat) (H : Hp) (c : Array Value) (e : TypeId), (∀ v ∈ vs, one v = true) -> H b = some (true, .cells c e (0, 0)) -> o + i + vs.length <= c.size ->
  K () (H.set b (.cells (over c (o + i) vs) e (0, 0))) -> wpS P (storeCells ⟨b, o, none⟩ vs i) H K E
 | [], i, H, c, e, _, hb, _, h => by
  rw [over_nil, set_self hb] at h
  exact h
 | v :: vs, i, H, c, e, h1, hb, hl, h => by
  unfold storeCells
  rw [wpS_bind', add_eq, wpS_store (h1 v List.mem_cons_self), stor_at hb]
  simp only [List.length_cons] at hl
  refine ⟨by omega, ?_⟩
  refine wpS_storeCells b o K E vs (i + 1) _ (c.setIfInBounds (o + i) v) e (fun u hu => h1 u (List.mem_cons_of_mem _ hu)) (by simp [get_set]) (by simp; omega) ?_
  rw [set_set, show o + (i + 1) = o + i + 1 from by omega, over_cons (by omega)]
  exact h
theorem nextcap_le (need old : Nat) (h : old < need) : Builtin.nextslicecap need old <= 2 * need + 400 := by
 unfold Builtin.nextslicecap
 split
 ·omega
 ·split
  ·omega
  ·have key : ∀ (r c : Nat), 256 <= c -> c <= need -> Builtin.growBy need r c <= 2 * need + 400 := by
    intro r
    induction r with
    | zero => intro c _ hc; simp only [Builtin.growBy]; omega
    | succ r ih =>
     intro c h1 hc
     simp only [Builtin.growBy]
     split
     ·omega
     ·by_cases h2 : c + (c + 768) / 4 <= need
      ·exact ih _ (by omega) h2
      ·cases r with
       | zero => simp only [Builtin.growBy]; omega
       | succ r => simp only [Builtin.growBy]; rw [if_pos (by omega)]; omega
   exact key _ _ (by omega) (by omega)
theorem askRoom_wp (n : Nat) (K : Unit -> Hp -> Prop) (E : Value -> Hp -> Prop) : wpS P (askRoom n) H K E = K () H := by
 unfold askRoom
 split
 ·simp [mark, wpS]
 ·rfl
theorem zeroCells_size (z : Array Value) (n : Nat) : (Builtin.zeroCells z n).size = n * z.size := by simp [Builtin.zeroCells]
theorem append_law {t e : TypeId} {sz : Nat} {z : Value} {inf : TypeInfo} (hu : P.underlying t = some (.slice e)) (hs : ∀ w, (sizeOf e).run P w = .ok sz w) (hz : ∀ w, (zeroValue e).run P w = .ok z w) (hzc : z.cells.size = sz)
  (hi : ∀ w, (typeInfo e).run P w = .ok inf w) (hby : inf.bytes <= 1024) (hby0 : 0 < inf.bytes) {H₀ H : Hp} {v : Value} {n : Nat} {cs : List Value} (hrow : NewRow H₀ H v e sz n cs) {Hx : Hp} (hx : H.le Hx)
  {g o m cap : Nat} {news : List Value} (hl : news.length = m * sz) (hg : H₀ g = none -> H g = none) (hnews : ∀ j u, news[j]? = some u -> Hx.cell ⟨g, o + j, none⟩ = some u) (h1 : ∀ u ∈ news, one u = true) (hn : n + m <= 1073741824)
  (ty : TypeId) (cb : Array Bool) (K : Next -> Hp -> Prop) (E : Value -> Hp -> Prop)
  (h : ∀ v' H' H'', NewRow H₀ H' v' e sz (n + m) (cs ++ news) -> H'.le H'' -> K (.value v') H'') :
  wpS P (builtin .append #[t, t] ty cb #[v, .slice (some ⟨g, o, none⟩) m cap]) Hx K E := by
 have hinf := info_of_run hi
 have hcl := hrow.len
 simp only [builtin]
 rw [wpS_bind']
 unfold Builtin.append_
 simp only [List.getElem?_toArray, List.getElem?_cons_zero, List.getElem?_cons_succ]
 rw [wpS_bind', wpS_underlying hu]
 obtain ⟨base, scap, rfl⟩ : ∃ base scap, v = .slice base n scap := by
  rcases hrow with ⟨rfl, rfl, _, _⟩ | ⟨b, c, cp, _, _, rfl, _⟩
  ·exact ⟨_, _, rfl⟩
  ·exact ⟨_, _, rfl⟩
 simp only [wpS_bind', wpS_sizeOf hs, wpS_underlying hu, wpS_pure, Bool.false_eq_true, if_false, Builtin.lenOf, wpS_ite]
 have hle : H₀.le Hx := Hp.le_trans hrow.le hx
 have hfirst : ∀ (K' : Array Value -> Hp -> Prop), wpS P (Builtin.firstCells sz m (.slice (some ⟨g, o, none⟩) m cap)) Hx K' E = K' news.toArray Hx := fun K' => by
  unfold Builtin.firstCells
  exact wpS_loadCells hl hnews K' E
 split
 ·rename_i hfit
  simp only [Bool.not_false, if_true]
  rw [hfirst]
  rcases hrow with ⟨hv, rfl, rfl, rfl⟩ | ⟨b, c, cp, hb, rfl, hv, hc, hcs, hcap, hget⟩
  ·simp only [Value.slice.injEq] at hv
   obtain ⟨rfl, _, rfl⟩ := hv
   obtain rfl : m = 0 := by omega
   obtain rfl : news = [] := by simpa using hl
   simp only [wpS_pure]
   exact h _ _ _ (NewRow.nil _ _ _) hx
  ·simp only [Value.slice.injEq] at hv
   obtain ⟨rfl, _, rfl⟩ := hv
   simp only [wpS_bind', wpS_pure, add_eq]
   have hbx : Hx b = some (true, .cells c e (0, 0)) := hx b _ (by simp [get_set])
   have hsz : n * sz + news.length <= c.size := by rw [hl, hc, <- Nat.add_mul]; exact Nat.mul_le_mul_right _ hfit
   refine wpS_storeCells b (0 + n * sz) _ E news 0 Hx c e h1 hbx (by omega) ?_
   refine h _ (H₀.set b (.cells (over c (0 + n * sz + 0) news) e (0, 0))) _ (.inr ⟨b, _, scap, hb, rfl, rfl, by rw [over_size, hc], ?_, hfit, fun i u hiu => ?_⟩) (Hp.set_le hle)
   ·rw [List.length_append, hcs, hl, Nat.add_mul]
   ·have hilt : i < (cs ++ news).length := (List.getElem?_eq_some_iff.1 hiu).1
    rw [List.length_append] at hilt
    rw [over_get i (by omega)]
    by_cases hic : i < cs.length
    ·rw [if_neg (by omega)]
     exact hget i u (by rw [List.getElem?_append_left hic] at hiu; exact hiu)
    ·rw [if_pos ⟨by omega, by omega⟩]
     rw [List.getElem?_append_right (by omega)] at hiu
     rw [show i - (0 + n * sz + 0) = i - cs.length from by omega]
     simp [List.getD, hiu]
 ·rename_i hfit
  have hold : ∀ (K' : Array Value -> Hp -> Prop), wpS P (Builtin.firstCells sz n (.slice base n scap)) Hx K' E = K' cs.toArray Hx := fun K' => by
   rcases hrow with ⟨hv, rfl, rfl, rfl⟩ | ⟨b, c, cp, hb, rfl, hv, hc, hcs, hcap, hget⟩
   ·simp only [Value.slice.injEq] at hv
    obtain ⟨rfl, _, rfl⟩ := hv
    rfl
   ·simp only [Value.slice.injEq] at hv
    obtain ⟨rfl, _, rfl⟩ := hv
    unfold Builtin.firstCells
    refine wpS_loadCells hcs (fun j u hj => ?_) K' E
    rw [cell_of (hx b (true, .cells c e (0, 0)) (by simp [get_set]))]
    rw [Nat.zero_add]
    exact hget j u hj
  have hnc := nextcap_le (n + m) scap (by omega)
  simp only [wpS_typeInfo hinf]
  rw [if_neg (by intro hh; have := hh.2; simp at this; omega)]
  rw [if_neg (by
   have : Builtin.nextslicecap (n + m) scap * inf.bytes <= (2 * (n + m) + 400) * 1024 := Nat.mul_le_mul hnc hby
   omega)]
  simp only [choose, wpS, Question.forced, Bool.false_eq_true, if_false, Question.cut]
  intro t
  simp only [askRoom_wp, hold, Bool.not_false, if_true, hfirst, wpS_zeroValue hz, newRow, newObj, wpS_bind', wpS, wpS_pure]
  intro b' hb'
  generalize hN : n + m + t % (2 ^ 63 - (n + m)) = N
  have hNge : n + m <= N := by omega
  refine h _ (H₀.set b' (.cells (cs.toArray ++ news.toArray ++ Builtin.zeroCells z.cells (N - (n + m))) e (0, 0))) _ (.inr ⟨b', _, N, Hp.le_none hle hb', rfl, rfl, ?_, ?_, hNge, fun i u hiu => ?_⟩) (Hp.set_le hle)
  ·simp only [Array.size_append, List.size_toArray, zeroCells_size, hzc, hcl, hl, <- Nat.add_mul]
   congr 1; omega
  ·rw [List.length_append, hcl, hl, Nat.add_mul]
  ·have hilt : i < (cs ++ news).length := (List.getElem?_eq_some_iff.1 hiu).1
   rw [Array.getElem?_append_left (by simpa using hilt)]
   simpa using hiu
theorem reps (z : Value) (n : Nat) : ((Array.range n).map fun x => #[z][x % #[z].size]!) = Array.replicate n z := by
 apply Array.ext
 ·simp
 ·intro i h1 h2
  simp [Nat.mod_one]
section
variable {t e : TypeId} {z : Value} (hu : P.underlying t = some (.slice e)) (hs : ∀ w, (sizeOf e).run P w = .ok 1 w) (hz : ∀ w, (zeroValue e).run P w = .ok z w) (hz1 : one z = true) (K : Value -> Hp -> Prop) (E : Value -> Hp -> Prop)
include hu hs hz hz1
omit hz hz1 in
theorem buildSlice0 : wpS P (Instr.buildSlice t 0 #[]) H K E = ∀ b, H b = none -> K (.slice (some ⟨b, 0, none⟩) 0 0) (H.set b (.cells #[] e (0, 0))) := by
 unfold Instr.buildSlice
 simp only [wpS_bind', wpS_underlying hu, wpS_sizeOf hs, Nat.reduceMul, Nat.reducePow, gt_iff_lt, Nat.reduceLT, ↓reduceIte, wpS_pure]
 simp only [Instr.fill, newRow, newObj, wpS_bind', wpS, wpS_pure, Array.range, Array.ofFn_zero, Array.map_empty]
theorem buildSliceN (n : Nat) (vs : List (Nat × Value)) (hn : n <= 1000) (h0 : 0 < n) {c : Array Value} (hf : Instr.fill (fun i => some (i * 1, 1)) (Array.replicate n z) vs = some c) :
  wpS P (Instr.buildSlice t n vs.toArray) H K E = ∀ b, H b = none -> K (.slice (some ⟨b, 0, none⟩) n n) (H.set b (.cells c e (0, 0))) := by
 unfold Instr.buildSlice
 have h1 : ¬ n > 16777216 := by omega
 have h2 : ¬ n = 0 := by omega
 simp only [Nat.mul_one] at hf
 simp only [wpS_bind', wpS_underlying hu, wpS_sizeOf hs, Nat.mul_one, Nat.reducePow, h1, h2, if_false, wpS_zeroValue hz, wpS_pure, cells_one hz1, reps, hf, newRow, newObj, wpS]
end
end
end Go.X
end
section
namespace Go.X
open Go
section
variable {P : Program} {H : Hp}
theorem over_list (l : List Value) (o : Nat) (vs : List Value) (h : o + vs.length <= l.length) : over l.toArray o vs = (l.take o ++ vs ++ l.drop (o + vs.length)).toArray := by
 apply Array.ext_getElem?
 intro i
 by_cases hi : i < l.length
 ·rw [over_get i (by simpa using hi)]
  simp only [List.getElem?_toArray]
  by_cases h1 : i < o
  ·rw [if_neg (by omega), List.append_assoc, List.getElem?_append_left (by simp; omega), List.getElem?_take_of_lt h1]
  ·by_cases h2 : i < o + vs.length
   ·rw [if_pos ⟨by omega, h2⟩, List.append_assoc, List.getElem?_append_right (by simp; omega)]
    have e : (l.take o).length = o := by simp; omega
    rw [e, List.getElem?_append_left (by omega)]
    simp [List.getD, List.getElem?_eq_getElem (show i - o < vs.length by omega)]
   ·rw [if_neg (by omega), List.getElem?_append_right (by simp; omega)]
    have e : (l.take o ++ vs).length = o + vs.length := by simp; omega
    rw [e, List.getElem?_drop]
    congr 1; omega
 ·rw [Array.getElem?_eq_none (by simp [over_size]; omega), Array.getElem?_eq_none (by simp; omega)]
def loadA (H : Hp) (b o n : Nat) (K : Value -> Prop) : Prop :=
 match H b with
 | some (_, .cells c _ _) => o + n <= c.size /\ K (.agg (c.extract o (o + n)))
 | _ => False
theorem loadA_at {b o n : Nat} {K : Value -> Prop} {p : Bool} {c : Array Value} {e : TypeId} {f : Nat × Nat} (h : H b = some (p, .cells c e f)) : loadA H b o n K = (o + n <= c.size /\ K (.agg (c.extract o (o + n)))) := by
 simp [loadA, h]
theorem loadA_set {b o n : Nat} {K : Value -> Prop} {c : Array Value} {e : TypeId} {f : Nat × Nat} : loadA (H.set b (.cells c e f)) b o n K = (o + n <= c.size /\ K (.agg (c.extract o (o + n)))) := loadA_at (p := true) (c := c) (e := e) (f := f) (by simp [get_set])
@[congr] theorem loadA_congr {H' : Hp} {b o n b' o' : Nat} {K : Value -> Prop} (hH : H = H') (hb : b = b') (ho : o = o') : loadA H b o n K = loadA H' b' o' n K := by subst hH hb ho; rfl
theorem loadAt_agg {t : TypeId} {d : TypeDesc} (hu : P.underlying t = some d) (hd : aggB d = true) {n : Nat} (hs : ∀ w, (sizeOf t).run P w = .ok n w) (b o : Nat) (K : Value -> Hp -> Prop) (E : Value -> Hp -> Prop) (hn : loadA H b o n (fun v => K v H)) :
  wpS P (Instr.loadAt t (.pointer (some ⟨b, o, none⟩))) H K E := by
 unfold Instr.loadAt
 rw [wpS_bind']
 simp only [Instr.sureAddr, wpS_pure, loadVar]
 rw [wpS_bind', wpS_isAgg hu, hd]
 simp only [if_true, wpS_bind', wpS_sizeOf hs]
 unfold loadA at hn
 split at hn
 ·rename_i p c e f hb
  have hc : ((c.toList.drop o).take n).length = n := by simp; omega
  rw [wpS_loadCells (cs := (c.toList.drop o).take n) hc (fun j u hj => by
   have hjl : j < ((c.toList.drop o).take n).length := (List.getElem?_eq_some_iff.1 hj).1
   rw [hc] at hjl
   rw [cell_of hb]
   rw [List.getElem?_take_of_lt hjl, List.getElem?_drop] at hj
   simpa using hj)]
  have he : ((c.toList.drop o).take n).toArray = c.extract o (o + n) := by
   apply Array.ext'
   simp [List.extract_eq_take_drop]
  rw [he, wpS_pure]
  exact hn.2
 ·exact hn.elim
theorem loadCellsFrom_inv (b o : Nat) (K : Array Value -> Hp -> Prop) (E : Value -> Hp -> Prop) : ∀ (n i : Nat) (acc : Array Value), wpS P (loadCellsFrom ⟨b, o, none⟩ i n acc) H K E -> ∀ j, j < n -> ∃ u, H.cell ⟨b, o + (i + j), none⟩ = some u
 | 0, _, _, _, j, hj => by omega
 | n + 1, i, acc, h, j, hj => by
  unfold loadCellsFrom at h
  rw [wpS_bind', add_eq, wpS_load] at h
  obtain ⟨v, hv, h⟩ := h
  cases j with
  | zero => exact ⟨v, by simpa using hv⟩
  | succ j =>
   obtain ⟨u, hu⟩ := loadCellsFrom_inv b o K E n (i + 1) _ h j (by omega)
   exact ⟨u, by rw [show o + (i + (j + 1)) = o + (i + 1 + j) from by omega]; exact hu⟩
theorem loadAt_aggE {t : TypeId} {d : TypeDesc} (hu : P.underlying t = some d) (hd : aggB d = true) {n : Nat} (hs : ∀ w, (sizeOf t).run P w = .ok (n + 1) w) (b o : Nat) (K : Value -> Hp -> Prop) (E : Value -> Hp -> Prop) :
  wpS P (Instr.loadAt t (.pointer (some ⟨b, o, none⟩))) H K E = loadA H b o (n + 1) (fun v => K v H) := by
 refine propext ⟨fun h => ?_, loadAt_agg hu hd hs b o K E⟩
 have h' := h
 unfold Instr.loadAt at h'
 rw [wpS_bind'] at h'
 simp only [Instr.sureAddr, wpS_pure, loadVar] at h'
 rw [wpS_bind', wpS_isAgg hu, hd] at h'
 simp only [if_true, wpS_bind', wpS_sizeOf hs] at h'
 have hinv := loadCellsFrom_inv b o _ E (n + 1) 0 #[] h'
 obtain ⟨u0, h0⟩ := hinv 0 (by omega)
 obtain ⟨u1, h1⟩ := hinv n (by omega)
 simp only [Nat.zero_add, Nat.add_zero, Hp.cell] at h0 h1
 rcases hb : H b with _ | ⟨p, ob⟩
 ·rw [hb] at h0; cases h0
 ·rw [hb] at h0 h1
  cases ob <;> simp only [] at h0 h1 <;> try (cases h0; done)
  rename_i c e f
  have hlt : o + n < c.size := by
   simp only [Option.isSome_none, Bool.false_eq_true, if_false] at h1
   exact (Array.getElem?_eq_some_iff.1 h1).1
  rw [loadA_at hb]
  refine ⟨by omega, ?_⟩
  have hc : ((c.toList.drop o).take (n + 1)).length = n + 1 := by simp; omega
  unfold loadCells at h'
  rw [show loadCellsFrom ⟨b, o, none⟩ 0 (n + 1) #[] = loadCells ⟨b, o, none⟩ (n + 1) from rfl, wpS_loadCells (cs := (c.toList.drop o).take (n + 1)) hc (fun j u hj => by
   have hjl : j < ((c.toList.drop o).take (n + 1)).length := (List.getElem?_eq_some_iff.1 hj).1
   rw [hc] at hjl
   rw [cell_of hb]
   rw [List.getElem?_take_of_lt hjl, List.getElem?_drop] at hj
   simpa using hj)] at h'
  have he : ((c.toList.drop o).take (n + 1)).toArray = c.extract o (o + (n + 1)) := by
   apply Array.ext'
   simp [List.extract_eq_take_drop]
  rw [he, wpS_pure] at h'
  exact h'
def storL (H : Hp) (b : Nat) : Nat -> List Value -> (Hp -> Prop) -> Prop
 | _, [], K => K H
 | o, v :: vs, K => one v = true /\ stor H b o v fun H' => storL H' b (o + 1) vs K
termination_by _ vs _ => vs.length
theorem storL_nil {b o : Nat} {K : Hp -> Prop} : storL H b o [] K = K H := by unfold storL; rfl
theorem storL_cons {b o : Nat} {v : Value} {vs : List Value} {K : Hp -> Prop} : storL H b o (v :: vs) K = (one v = true /\ stor H b o v fun H' => storL H' b (o + 1) vs K) := by
 conv => lhs; unfold storL
theorem storL_at {b : Nat} {K : Hp -> Prop} {e : TypeId} : ∀ {vs : List Value} {o : Nat} {H : Hp} {c : Array Value}, vs ≠ [] -> H b = some (true, .cells c e (0, 0)) -> storL H b o vs K = ((vs.all one) = true /\ o + vs.length <= c.size /\ K (H.set b (.cells (over c o vs) e (0, 0))))
 | [], _, _, _, h, _ => absurd rfl h
 | [v], o, H, c, _, hb => by
  rw [storL_cons, stor_at hb, storL_nil, <- over_nil (c := c.setIfInBounds o v) (o := o + 1)]
  by_cases h : o < c.size
  ·rw [over_cons h]; simp; omega
  ·apply propext; constructor
   ·rintro ⟨_, h', _⟩; exact absurd h' h
   ·rintro ⟨_, h', _⟩; simp at h'; omega
 | v :: w :: vs, o, H, c, _, hb => by
  rw [storL_cons, stor_at hb]
  have ih := storL_at (K := K) (b := b) (e := e) (vs := w :: vs) (o := o + 1) (H := H.set b (.cells (c.setIfInBounds o v) e (0, 0))) (c := c.setIfInBounds o v) (by simp) (by simp [get_set])
  rw [ih, set_set]
  by_cases h : o < c.size
  ·rw [over_cons h]
   simp only [List.all_cons, Bool.and_eq_true, List.length_cons, Array.size_setIfInBounds]
   exact propext ⟨fun ⟨a, _, c, d, e⟩ => ⟨⟨a, c⟩, by omega, e⟩, fun ⟨⟨a, c⟩, d, e⟩ => ⟨a, h, c, by omega, e⟩⟩
  ·apply propext; constructor
   ·rintro ⟨_, h', _⟩; exact absurd h' h
   ·rintro ⟨_, h', _⟩; simp at h'; omega
theorem storL_set {b o : Nat} {vs : List Value} {K : Hp -> Prop} {c : Array Value} {e : TypeId} {v : Value} : storL (H.set b (.cells c e (0, 0))) b o (v :: vs) K = (((v :: vs).all one) = true /\ o + (v :: vs).length <= c.size /\ K (H.set b (.cells (over c o (v :: vs)) e (0, 0)))) := by
 rw [storL_at (c := c) (e := e) (by simp) (by simp [get_set]), set_set]
theorem storL_of {b o : Nat} {vs : List Value} {K : Hp -> Prop} {c : Array Value} {e : TypeId} {v : Value} (h : H b = some (true, .cells c e (0, 0))) : storL H b o (v :: vs) K = (((v :: vs).all one) = true /\ o + (v :: vs).length <= c.size /\ K (H.set b (.cells (over c o (v :: vs)) e (0, 0)))) :=
 storL_at (by simp) h
@[congr] theorem storL_congr {H' : Hp} {b o b' o' : Nat} {vs vs' : List Value} {K : Hp -> Prop} (hH : H = H') (hb : b = b') (ho : o = o') (hv : vs = vs') : storL H b o vs K = storL H' b' o' vs' K := by subst hH hb ho hv; rfl
theorem wpS_storeCellsE (b o : Nat) (K : Unit -> Hp -> Prop) (E : Value -> Hp -> Prop) : ∀ (vs : List Value) (i : Nat) (H : Hp), wpS P (storeCells ⟨b, o, none⟩ vs i) H K E = storL H b (o + i) vs (K ())
 | [], i, H => by rw [storL_nil]; rfl
 | v :: vs, i, H => by
  unfold storeCells
  rw [wpS_bind', add_eq, storL_cons]
  by_cases h1 : one v = true
  ·rw [wpS_store h1]
   simp only [h1, true_and]
   congr 1
   funext H'
   exact wpS_storeCellsE b o K E vs (i + 1) H'
  ·simp only [store, wpS]
   simp [h1]
theorem storeAt_agg {t : TypeId} {n : Nat} (hs : ∀ w, (sizeOf t).run P w = .ok n w) (b o : Nat) (vs : List Value) (K : Unit -> Hp -> Prop) (E : Value -> Hp -> Prop) :
  wpS P (Instr.storeAt t (.pointer (some ⟨b, o, none⟩)) (.agg vs.toArray)) H K E = (vs.length = n /\ storL H b o vs (K ())) := by
 unfold Instr.storeAt
 rw [wpS_bind']
 simp only [Instr.sureAddr, wpS_pure, storeVar]
 rw [wpS_bind', wpS_sizeOf hs]
 simp only [Value.cells, List.size_toArray, ne_eq]
 by_cases hl : vs.length = n
 ·simp only [hl, not_true, if_false, true_and]
  exact wpS_storeCellsE b o K E vs 0 H
 ·simp only [hl, not_false_eq_true, if_true, false_and]
  apply propext
  constructor
  ·intro h; rw [wpS_bind'] at h; exact h.elim
  ·exact fun h => h.elim
theorem part_one {t : TypeId} {d : TypeDesc} (hu : P.underlying t = some d) (hd : aggB d = false) (cs : Array Value) (off : Nat) {v : Value} (hv : cs[off]? = some v) (K : Value -> Hp -> Prop) (E : Value -> Hp -> Prop) :
  wpS P (part t cs off) H K E = K v H := by
 unfold part
 rw [wpS_bind', wpS_isAgg hu, hd]
 simp [hv, wpS_pure]
theorem part_agg {t : TypeId} {d : TypeDesc} (hu : P.underlying t = some d) (hd : aggB d = true) {n : Nat} (hs : ∀ w, (sizeOf t).run P w = .ok n w) (cs : Array Value) (off : Nat) (K : Value -> Hp -> Prop) (E : Value -> Hp -> Prop) :
  wpS P (part t cs off) H K E = K (.agg (cs.extract off (off + n))) H := by
 unfold part
 rw [wpS_bind', wpS_isAgg hu, hd]
 simp only [if_true, wpS_bind', wpS_sizeOf hs, wpS_pure]
def Sizes (P : Program) : List Field -> List Nat -> Prop
 | [], [] => True
 | f :: fs, n :: ns => (∀ w, (sizeOf f.type).run P w = .ok n w) /\ Sizes P fs ns
 | _, _ => False
def places : List Field -> List Nat -> List (Nat × Nat)
 | f :: fs, n :: ns => (f.offset, n) :: places fs ns
 | _, _ => []
theorem wpS_places (K : List (Nat × Nat) -> Hp -> Prop) (E : Value -> Hp -> Prop) : ∀ (fs : List Field) (ns : List Nat), Sizes P fs ns ->
  wpS P (fs.mapM fun f => do pure (f.offset, <- sizeOf f.type)) H K E = K (places fs ns) H
 | [], [], _ => rfl
 | [], _ :: _, h => h.elim
 | _ :: _, [], h => h.elim
 | f :: fs, n :: ns, h => by
  rw [List.mapM_cons, wpS_bind', wpS_bind', wpS_sizeOf h.1]
  rw [wpS_pure, wpS_bind']
  exact wpS_places (fun l H' => K ((f.offset, n) :: l) H') E fs ns h.2
def lay (pl : List (Nat × Nat)) : List (Nat × Value) -> List Value -> Option (List Value)
 | [], cs => some cs
 | (i, v) :: rest, cs => match pl[i]? with
  | none => none
  | some (off, n) => if v.cells.size = n /\ off + n <= cs.length then lay pl rest (cs.take off ++ v.cells.toList ++ cs.drop (off + n)) else none
theorem foldl_over (off : Nat) : ∀ (vs : List Value) (k : Nat) (c : Array Value), off + k + vs.length <= c.size -> (vs.zipIdx k).foldl (fun cs (x : Value × Nat) => cs.setIfInBounds (off + x.2) x.1) c = over c (off + k) vs
 | [], k, c, _ => by rw [over_nil]; rfl
 | v :: vs, k, c, h => by
  simp only [List.length_cons] at h
  simp only [List.zipIdx_cons, List.foldl_cons]
  rw [foldl_over off vs (k + 1) _ (by simp; omega), show off + (k + 1) = off + k + 1 from by omega, over_cons (by omega)]
theorem fill_lay (pl : List (Nat × Nat)) : ∀ (ps : List (Nat × Value)) (cs : List Value) (out : List Value), lay pl ps cs = some out -> Instr.fill (pl.toArray[·]?) cs.toArray ps = some out.toArray
 | [], cs, out, h => by simp only [lay, Option.some.injEq] at h; subst h; rfl
 | (i, v) :: rest, cs, out, h => by
  unfold lay at h
  unfold Instr.fill
  rw [List.getElem?_toArray]
  split at h
  ·cases h
  ·rename_i off n hp
   rw [hp]
   simp only []
   split at h
   ·rename_i hc
    rw [if_neg (by simp [hc.1]; exact hc.2)]
    have : (Array.foldl (fun cs (x : Value × Nat) => cs.setIfInBounds (off + x.2) x.1) cs.toArray v.cells.zipIdx) = (cs.take off ++ v.cells.toList ++ cs.drop (off + n)).toArray := by
     rw [<- Array.foldl_toList, Array.toList_zipIdx]
     have hlen : v.cells.toList.length = n := by simpa using hc.1
     rw [foldl_over off v.cells.toList 0 cs.toArray (by simp [hc.1]; exact hc.2)]
     rw [Nat.add_zero, over_list _ _ _ (by rw [hlen]; exact hc.2), hlen]
    rw [this]
    exact fill_lay pl rest _ out h
   ·cases h
theorem build_struct {t : TypeId} {fs : Array Field} (hu : P.underlying t = some (.struct fs)) {z : List Value} (hz : ∀ w, (zeroValue t).run P w = .ok (.agg z.toArray) w) {ns : List Nat} (hns : Sizes P fs.toList ns) (ps : List (Nat × Value)) {out : List Value} (hl : lay (places fs.toList ns) ps z = some out)
  (K : Value -> Hp -> Prop) (E : Value -> Hp -> Prop) : wpS P (Instr.build t ps.toArray) H K E = K (.agg out.toArray) H := by
 unfold Instr.build
 rw [wpS_bind', wpS_zeroValue hz]
 rw [wpS_bind', wpS_underlying hu]
 simp only [Value.cells]
 have hm : (fs.mapM (m := Sem) fun f => do pure (f.offset, <- sizeOf f.type)) = (fs.toList.mapM (m := Sem) fun f => do pure (f.offset, <- sizeOf f.type)) >>= fun l => pure l.toArray := by
  rw [Array.mapM_eq_mapM_toList]
  rfl
 rw [wpS_bind', hm, wpS_bind', wpS_places _ _ _ _ hns]
 simp only [wpS_pure]
 rw [show ((fun x => (places fs.toList ns).toArray[x]?) : Nat -> Option (Nat × Nat)) = ((places fs.toList ns).toArray[·]?) from rfl, fill_lay _ _ _ _ hl]
 rfl
theorem makeI {t : TypeId} {d : TypeDesc} (hu : P.underlying t = some d) (hd : (match d with | .interface _ => true | _ => false) = false) (x : Value) (K : Value -> Hp -> Prop) (E : Value -> Hp -> Prop) : wpS P (Instr.makeInterface t x) H K E = K (.iface t x) H := by
 unfold Instr.makeInterface
 rw [wpS_bind', wpS_underlying hu]
 cases d <;> first | rfl | cases hd
end
end Go.X
end
section
namespace Go.X
open Go
section
variable {P : Program} {main : Md} {lp : Option Nat} {Q : Exit -> Act -> Hp -> Prop} {a : Act} {H : Hp}
theorem makeSlice_one {t e : TypeId} {z : Value} {inf : TypeInfo} (hu : P.underlying t = some (.slice e)) (hs : ∀ w, (sizeOf e).run P w = .ok 1 w) (hz : ∀ w, (zeroValue e).run P w = .ok z w) (hz1 : one z = true)
  (hi : ∀ w, (typeInfo e).run P w = .ok inf w) (hby : inf.bytes <= 1024) (k j : IntKind) (n : Int) (h0 : 0 <= n) (h1 : n <= 1000000) (K : Value -> Hp -> Prop) (E : Value -> Hp -> Prop) :
  wpS P (Instr.makeSlice t (.int k n) (.int j n)) H K E = ∀ b, H b = none -> K (.slice (some ⟨b, 0, none⟩) n.toNat n.toNat) (H.set b (.cells (Array.replicate n.toNat z) e (0, 0))) := by
 have hinf := info_of_run hi
 have hw : IntKind.i64.wrap n = n := w64 n (by omega) (by omega)
 have hb : ¬ ((inf.bytes : Int) * n > 2 ^ 48) := by
  have : (inf.bytes : Int) * n <= 1024 * 1000000 := Int.mul_le_mul (by omega) h1 h0 (by omega)
  have h2 : (2 : Int) ^ 48 = 281474976710656 := by decide
  omega
 have h00 : ¬ n < 0 := by omega
 unfold Instr.makeSlice
 simp only [wpS_bind', wpS_underlying hu, asInt, asIntOf, wpS_pure, wpS_typeInfo hinf, hw]
 simp only [h00, decide_false, hb, Bool.or_self, Bool.false_eq_true, if_false, gt_iff_lt, Int.lt_irrefl, wpS_bind', askRoom_wp, wpS_sizeOf hs, Nat.mul_one]
 have h0r : ∀ f : Nat -> Value, Array.map f (Array.range 0) = #[] := fun f => Array.eq_empty_of_size_eq_zero (by simp)
 by_cases hn : n.toNat = 0
 ·simp [-bind_pure_comp, hn, wpS_pure, newRow, newObj, wpS_bind', wpS, h0r]
 ·simp only [hn, if_false, wpS_bind', wpS_zeroValue hz, wpS_pure, cells_one hz1, reps, newRow, newObj, wpS]
theorem min_int (ats : Array TypeId) (ty : TypeId) (cs : Array Bool) (k j : IntKind) (x y : Int) (K : Next -> Hp -> Prop) (E : Value -> Hp -> Prop) :
  wpS P (builtin .min ats ty cs #[.int k x, .int j y]) H K E = K (.value (.int k (if y < x then y else x))) H := by
 simp only [builtin, Builtin.min_, wpS_bind', List.foldlM, Builtin.min2, wpS_pure]
theorem max_int (ats : Array TypeId) (ty : TypeId) (cs : Array Bool) (k j : IntKind) (x y : Int) (K : Next -> Hp -> Prop) (E : Value -> Hp -> Prop) :
  wpS P (builtin .max ats ty cs #[.int k x, .int j y]) H K E = K (.value (.int k (if x < y then y else x))) H := by
 simp only [builtin, Builtin.max_, wpS_bind', List.foldlM, Builtin.max2, wpS_pure]
theorem indexAt_array {t e : TypeId} {N : Nat} (hu : P.underlying t = some (.array N e)) {n : Nat} (hs : ∀ w, (sizeOf e).run P w = .ok n w) (b o : Nat) (k : IntKind) (i : Int) (K : Value -> Hp -> Prop) (E : Value -> Hp -> Prop) (h0 : 0 <= i) (h1 : i < N) :
  wpS P (Instr.indexAt t (.pointer (some ⟨b, o, none⟩)) (.int k i)) H K E = K (.pointer (some ⟨b, o + i.toNat * n, none⟩)) H := by
 unfold Instr.indexAt
 rw [wpS_bind']
 simp only [asIntOf, wpS_pure]
 simp only [wpS_bind', wpS_underlying hu, Instr.sureAddr, wpS_pure, h0, h1, and_self, if_true, wpS_sizeOf hs, add_eq]
def layT1 (q : Option (Nat × Nat)) (v : Value) (cs : List Value) : List Value := match q with
 | none => cs
 | some (off, n) => cs.take off ++ v.cells.toList ++ cs.drop (off + n)
def layT (pl : List (Nat × Nat)) : List (Nat × Value) -> List Value -> List Value
 | [], cs => cs
 | (i, v) :: rest, cs => layT pl rest (layT1 pl[i]? v cs)
theorem layT_nil {pl : List (Nat × Nat)} {cs : List Value} : layT pl [] cs = cs := rfl
theorem layT_cons {pl : List (Nat × Nat)} {cs : List Value} {i : Nat} {v : Value} {rest : List (Nat × Value)} : layT pl ((i, v) :: rest) cs = layT pl rest (layT1 pl[i]? v cs) := rfl
theorem layT1_some {v : Value} {cs : List Value} {off n : Nat} : layT1 (some (off, n)) v cs = cs.take off ++ v.cells.toList ++ cs.drop (off + n) := rfl
theorem cells_int {k : IntKind} {x : Int} : (Value.int k x).cells = #[.int k x] := rfl
theorem cells_bool {x : Bool} : (Value.bool x).cells = #[.bool x] := rfl
theorem cells_slice {x : Option Addr} {n c : Nat} : (Value.slice x n c).cells = #[.slice x n c] := rfl
theorem cells_pointer {x : Option Addr} : (Value.pointer x).cells = #[.pointer x] := rfl
theorem cells_map {x : Option Nat} : (Value.map x).cells = #[.map x] := rfl
theorem cells_iface {x : TypeId} {v : Value} : (Value.iface x v).cells = #[.iface x v] := rfl
theorem cells_agg {c : Array Value} : (Value.agg c).cells = c := rfl
def onEnd (K : Act -> Hp -> Prop) (Q : Exit -> Act -> Hp -> Prop) (d : Option Tmp) (a : Act) : Ending -> Hp -> Prop
 | .returned v, H' => K (a.put d v) H'
 | .panicked c, H' => Q (.panic c) a H'
 | .outgrown, _ => False
theorem onEnd_ret {K : Act -> Hp -> Prop} {d : Option Tmp} {v : Value} : onEnd K Q d a (.returned v) H = K (a.put d v) H := rfl
theorem uponX_enterK {o : Oper} {K : Act -> Hp -> Prop} (f : FuncId) (args : Array Value) : uponX P main lp o a K Q (.enter f args) H = Runs P main (Frame.enter P f args .normal) H (onEnd K Q o.dst a) := by
 unfold uponX
 congr 1
def exK (q : Option Value) (K : Value -> Prop) : Prop := match q with
 | some v => K v
 | none => False
theorem exK_some {v : Value} {K : Value -> Prop} : exK (some v) K = K v := rfl
theorem extract_E (vs : List Value) (i : Nat) (K : Value -> Hp -> Prop) (E : Value -> Hp -> Prop) : wpS P (Instr.extract (.tuple vs.toArray) i) H K E = exK vs[i]? (fun v => K v H) := by
 unfold Instr.extract exK
 simp only [List.getElem?_toArray]
 cases vs[i]? <;> rfl
theorem loadVar_agg {t : TypeId} {d : TypeDesc} (hu : P.underlying t = some d) (hd : aggB d = true) {n : Nat} (hs : ∀ w, (sizeOf t).run P w = .ok (n + 1) w) (b o : Nat) (K : Value -> Hp -> Prop) (E : Value -> Hp -> Prop) :
 wpS P (loadVar t ⟨b, o, none⟩) H K E = loadA H b o (n + 1) (fun v => K v H) := loadAt_aggE hu hd hs b o K E
theorem results_cell {fn : Func} {t : Tmp} {ty : TypeId} (h : fn.results = #[.cell t ty]) {n : Nat} {e : Nat -> Value} {ds : List Deferred} (ht : t < n) {b o : Nat} (hb : e t = .pointer (some ⟨b, o, none⟩))
  {d : TypeDesc} (hu : P.underlying ty = some d) (hd : aggB d = true) {k : Nat} (hs : ∀ w, (sizeOf ty).run P w = .ok (k + 1) w) (K : Value -> Hp -> Prop) (E : Value -> Hp -> Prop) :
  wpS P (results fn (act n e ds).tmps) H K E = loadA H b o (k + 1) (fun v => K v H) := by
 simp [-bind_pure_comp, results, h, act_get? ht, hb, asAddr, wpS_bind', wpS_pure, loadVar_agg hu hd hs]
theorem results_cell_tmp {fn : Func} {t u : Tmp} {ty : TypeId} (h : fn.results = #[.cell t ty, .tmp u]) {n : Nat} {e : Nat -> Value} {ds : List Deferred} (ht : t < n) (hu' : u < n) {b o : Nat} (hb : e t = .pointer (some ⟨b, o, none⟩))
  {d : TypeDesc} (hu : P.underlying ty = some d) (hd : aggB d = true) {k : Nat} (hs : ∀ w, (sizeOf ty).run P w = .ok (k + 1) w) (K : Value -> Hp -> Prop) (E : Value -> Hp -> Prop) :
  wpS P (results fn (act n e ds).tmps) H K E = loadA H b o (k + 1) (fun v => K (.tuple #[v, e u]) H) := by
 simp [-bind_pure_comp, results, h, act_get? ht, act_get? hu', hb, asAddr, wpS_bind', wpS_pure, loadVar_agg hu hd hs]
theorem results_three {fn : Func} {t u v : Tmp} (h : fn.results = #[.tmp t, .tmp u, .tmp v]) {n : Nat} {e : Nat -> Value} {ds : List Deferred} (ht : t < n) (hu : u < n) (hv : v < n) (K : Value -> Hp -> Prop) (E : Value -> Hp -> Prop) :
  wpS P (results fn (act n e ds).tmps) H K E = K (.tuple #[e t, e u, e v]) H := by
 simp [results, h, act_get? ht, act_get? hu, act_get? hv, wpS_pure]
theorem bound_int (k : IntKind) (i : Int) (cap : Nat) (kd : BoundsCode) (h0 : 0 <= i) (h1 : i <= cap) (K : Nat -> Hp -> Prop) (E : Value -> Hp -> Prop) : wpS P (Instr.sliceBound (.int k i) cap kd) H K E = K i.toNat H := by
 unfold Instr.sliceBound
 simp [-bind_pure_comp, wpS_bind', asIntOf, wpS_pure, h0, h1]
theorem slice_hi {t e : TypeId} (hu : P.underlying t = some (.slice e)) {n : Nat} (hs : ∀ w, (sizeOf e).run P w = .ok n w) (b o len cap : Nat) (k : IntKind) (i : Int) (h0 : 0 <= i) (h1 : i <= cap) (K : Value -> Hp -> Prop) (E : Value -> Hp -> Prop) :
  wpS P (Instr.sliceAt t (.slice (some ⟨b, o, none⟩) len cap) (none : Option Value) (some (.int k i)) none) H K E = K (.slice (some ⟨b, o, none⟩) i.toNat cap) H := by
 unfold Instr.sliceAt Instr.slice Instr.sliceBounds
 simp [-bind_pure_comp, wpS_bind', wpS_underlying hu, wpS_pure, bound_int k i cap _ h0 h1, wpS_sizeOf hs, add_eq]
theorem slice_arr {t e : TypeId} {N : Nat} (hu : P.underlying t = some (.array N e)) {n : Nat} (hs : ∀ w, (sizeOf e).run P w = .ok n w) (b o : Nat) (K : Value -> Hp -> Prop) (E : Value -> Hp -> Prop) :
  wpS P (Instr.sliceAt t (.pointer (some ⟨b, o, none⟩)) (none : Option Value) none none) H K E = K (.slice (some ⟨b, o, none⟩) N N) H := by
 unfold Instr.sliceAt Instr.sliceBounds
 simp [-bind_pure_comp, wpS_bind', wpS_underlying hu, Instr.sureAddr, wpS_pure, wpS_sizeOf hs, add_eq]
theorem slice_arr_hi {t e : TypeId} {N : Nat} (hu : P.underlying t = some (.array N e)) {n : Nat} (hs : ∀ w, (sizeOf e).run P w = .ok n w) (b o : Nat) (k : IntKind) (i : Int) (h0 : 0 <= i) (h1 : i <= N) (K : Value -> Hp -> Prop) (E : Value -> Hp -> Prop) :
  wpS P (Instr.sliceAt t (.pointer (some ⟨b, o, none⟩)) (none : Option Value) (some (.int k i)) none) H K E = K (.slice (some ⟨b, o, none⟩) i.toNat N) H := by
 unfold Instr.sliceAt Instr.sliceBounds
 simp [-bind_pure_comp, wpS_bind', wpS_underlying hu, Instr.sureAddr, wpS_pure, bound_int k i N _ h0 h1, wpS_sizeOf hs, add_eq]
theorem slice_lo {t e : TypeId} (hu : P.underlying t = some (.slice e)) {n : Nat} (hs : ∀ w, (sizeOf e).run P w = .ok n w) (b o len cap : Nat) (k : IntKind) (i : Int) (h0 : 0 <= i) (h1 : i <= len) (K : Value -> Hp -> Prop) (E : Value -> Hp -> Prop) :
  wpS P (Instr.sliceAt t (.slice (some ⟨b, o, none⟩) len cap) (some (.int k i)) (none : Option Value) none) H K E = K (.slice (if cap = i.toNat then some ⟨b, o, none⟩ else some ⟨b, o + i.toNat * n, none⟩) (len - i.toNat) (cap - i.toNat)) H := by
 unfold Instr.sliceAt Instr.slice Instr.sliceBounds
 simp [-bind_pure_comp, wpS_bind', wpS_underlying hu, wpS_pure, bound_int k i len _ h0 h1, wpS_sizeOf hs, add_eq]
theorem slice_lohi {t e : TypeId} (hu : P.underlying t = some (.slice e)) {n : Nat} (hs : ∀ w, (sizeOf e).run P w = .ok n w) (b o len cap : Nat) (k k' : IntKind) (i j : Int) (h0 : 0 <= i) (h1 : i <= j) (h2 : j <= cap) (K : Value -> Hp -> Prop) (E : Value -> Hp -> Prop) :
  wpS P (Instr.sliceAt t (.slice (some ⟨b, o, none⟩) len cap) (some (.int k i)) (some (.int k' j)) none) H K E = K (.slice (if cap = i.toNat then some ⟨b, o, none⟩ else some ⟨b, o + i.toNat * n, none⟩) (j.toNat - i.toNat) (cap - i.toNat)) H := by
 unfold Instr.sliceAt Instr.slice Instr.sliceBounds
 have hj : i <= (j.toNat : Int) := by omega
 simp [-bind_pure_comp, wpS_bind', wpS_underlying hu, wpS_pure, bound_int k' j cap _ (by omega) h2, bound_int k i j.toNat _ h0 hj, wpS_sizeOf hs, add_eq]
end
end Go.X
end
