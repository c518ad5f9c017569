/- Texts Flow Chan Lend WFork WWork WLaw WLink Keep Ext SmF SmG. -/
import Derived.Test.YtnfnaehonkbknaaGreatDoorJ05
import Derived.Test.YtnfnaehonkbknaaGreatDoorJ07
import Derived.Test.YtnfnaehonkbknaaGreatDoorJ12
import Derived.Test.YtnfnaehonkbknaaGreatDoorChecked
import Derived.Conc.WgLib
set_option linter.defProp false
set_option linter.unusedSimpArgs false
set_option linter.unusedVariables false
set_option maxRecDepth 100000
set_option maxHeartbeats 2000000
section
namespace Go.X
open Go
open Go.Conc
section
variable {P : Program} {md : Md} {Stop : Goroutine -> Hp -> Prop} {ops : Array Oper} {s : Nat} {K : Act -> Hp -> Prop}
def runU (P : Program) (md : Md) (ops : Array Oper) (s : Nat) (K : Act -> Hp -> Prop) : List Nat -> Act -> Hp -> Prop
 | [], _, _ => False
 | i :: rest, a, H => if i = s then rest = [] /\ K a H else ∃ o, ops[i]? = some o /\ Region.wanted o (yielded ops a.tmps) = true /\ opX P md none o a H (runU P md ops s K rest) fun _ _ _ => False
theorem Bkr {b : Frame} {k : List Item} {cs : List Frame} (hk : b.kind ≠ .early) (hl : b.roundOf = none) (hK : ∀ a H, K a H -> WPG P md Stop (G (fat b a (.inRegion ops [s] :: k)) cs) H) :
  ∀ (todo : List Nat) (a : Act) (H : Hp), runU P md ops s K todo a H -> WPG P md Stop (G (fat b a (.inRegion ops todo :: k)) cs) H
 | [], _, _, h => h.elim
 | i :: rest, a, H, h => by
  unfold runU at h
  by_cases hi : i = s
  ·rw [if_pos hi] at h
   obtain ⟨rfl, h⟩ := h
   rw [hi]
   exact hK a H h
  ·rw [if_neg hi] at h
   obtain ⟨o, ho, hw, h⟩ := h
   exact WPG.op ho hw hk hl (Aw5 h fun a' H' h' => Bkr hk hl hK rest a' H' h')
def Dk9 (ops : Array Oper) : Bool := (List.range ops.size).all fun i => match ops[i]? with
 | some o => o.after.all fun e => !Region.binds .any e || decide (e.on < i)
 | none => true
def dstB (ops : Array Oper) : Bool := (List.range ops.size).all fun i => (List.range ops.size).all fun j => i == j || ((ops[i]?).bind (·.dst)).isNone || ((ops[i]?).bind (·.dst)) != ((ops[j]?).bind (·.dst))
def lastB (ops : Array Oper) (s : Nat) : Bool := (List.range ops.size).all fun j => j == s || (marked ops (List.range ops.size).reverse ((Array.replicate ops.size false).setIfInBounds s true)).getD j false
def left (ops : Array Oper) (listed : Array Bool) : Nat := (List.range ops.size).countP fun i => !listed.getD i false
theorem Bq5 {p q : Nat -> Bool} : ∀ {l : List Nat}, (∀ x ∈ l, p x = true -> q x = true) -> ∀ y ∈ l, q y = true -> p y = false -> l.countP p < l.countP q
 | [], _, y, hy, _, _ => by cases hy
 | x :: l, h, y, hy, h1, h2 => by
  rw [List.countP_cons, List.countP_cons]
  have hle : l.countP p <= l.countP q := List.countP_mono_left fun z hz => h z (by simp [hz])
  rcases List.mem_cons.1 hy with rfl | hy
  ·rw [h1, h2]; simp; omega
  ·have := Bq5 (fun z hz => h z (by simp [hz])) y hy h1 h2
   have hx := h x (by simp)
   cases hp : p x
   ·simp; omega
   ·simp [hx hp]; omega
theorem Dq7 {listed : Array Bool} {i : Nat} (hi : i < ops.size) (hs : listed.size = ops.size) (hl : listed.getD i false = false) : left ops (listed.setIfInBounds i true) < left ops listed := by
 unfold left
 refine Bq5 (fun x _ hx => ?_) i (List.mem_range.2 hi) (by simp [hl]) (by simp [Array.getD, hs, hi])
 by_cases hxi : x = i
 ·subst hxi; simp [hl]
 ·rwa [getD_set_ne false (Ne.symm hxi)] at hx
theorem Dvl {listed : Array Bool} (h : Region.ready .any ops listed = []) : ∀ fuel t, Region.linearise.go .any ops fuel t listed [] = []
 | 0, _ => rfl
 | fuel + 1, t => by
  simp only [Region.linearise.go]
  change (match (Region.ready .any ops listed)[t % (Region.ready .any ops listed).length]? with
   | some i => Region.linearise.go .any ops fuel (t / (Region.ready .any ops listed).length) (listed.setIfInBounds i true) [i]
   | none => [].reverse) = []
  rw [h]
  rfl
end
end Go.X
end
section
namespace Go.X
open Go
open Go.Conc
section
variable {P : Program} {main : Md} {lp : Option Nat} {Q : Exit -> Act -> Hp -> Prop} {a : Act} {H : Hp}
theorem Bzr (a : Act) (d : Option Tmp) (ty : TypeId) (pos : String) (af : Array Edge) (g : Option (Nat × Bool)) (K : Next -> Hp -> Prop) (E : Value -> Hp -> Prop) (t : TypeId) (x : Operand) :
 wpS P (execOp a.eval ⟨d, .makeChan t x, ty, pos, af, g⟩) H K E = wpS P (Instr.makeChan t (a.eval x)) H (fun v H' => K (.value v) H') E := Aqa _ _ _ _
theorem Cxi {t e : TypeId} (hu : P.underlying t = some (.slice e)) {n : Nat} (hs : ∀ w, (sizeOf e).run P w = .ok n w) (x : Option Addr) (len cap : Nat) (k k' : IntKind) (i j : Int) (h0 : 0 <= i) (h1 : i <= j) (h2 : j <= cap) (K : Value -> Hp -> Prop) (E : Value -> Hp -> Prop) :
  wpS P (Instr.sliceAt t (.slice x len cap) (none : Option Value) (some (.int k i)) (some (.int k' j))) H K E = K (.slice (if j.toNat = 0 then x else x.map (·.add 0)) i.toNat j.toNat) H := by
 unfold Instr.sliceAt Instr.slice Instr.sliceBounds
 simp [-bind_pure_comp, Aqa, Aqh hu, Aqe, Ajc k' j cap _ (by omega) h2, Ajc k i j.toNat _ h0 (by omega), Aq0 hs]
theorem add_zero' (x : Option Addr) : x.map (·.add 0) = x := by
 cases x with
 | none => rfl
 | some a => obtain ⟨b, o, s⟩ := a; cases s <;> rfl
theorem Bxq {t e : TypeId} (hu : P.underlying t = some (.slice e)) {n : Nat} (hs : ∀ w, (sizeOf e).run P w = .ok n w) (x : Option Addr) (len cap : Nat) (k k' : IntKind) (i j : Int) (h0 : 0 <= i) (h1 : i <= j) (h2 : j <= cap) (K : Value -> Hp -> Prop) (E : Value -> Hp -> Prop) :
  wpS P (Instr.sliceAt t (.slice x len cap) (none : Option Value) (some (.int k i)) (some (.int k' j))) H K E = K (.slice x i.toNat j.toNat) H := by
 rw [Cxi hu hs x len cap k k' i j h0 h1 h2, add_zero']
 simp
theorem Bxs {t : TypeId} (hs : ∀ w, (sizeOf t).run P w = .ok 1 w) (b o : Nat) (K : Unit -> Hp -> Prop) (E : Value -> Hp -> Prop) (x : Option Nat) : wpS P (Instr.storeAt t (.pointer (some ⟨b, o, none⟩)) (.chan x)) H K E = stor H b o (.chan x) (K ()) := Azq hs rfl b o K E
theorem Cv7 {d : Option Tmp} {ty : TypeId} {pos : String} {af : Array Edge} {g : Option (Nat × Bool)} {t : Tmp} {ats : Array TypeId} {f : Fn} {fi cap : Array Value} (h : a.eval (.tmp t) = .func f fi cap) (w : World) :
  (execOp a.eval ⟨d, .go ⟨.value (.tmp t), #[], ats⟩, ty, pos, af, g⟩).runT P w #[] = (.ok (.spawn { target := .fn f cap, args := fi }) w, #[]) := by
 simp [execOp, resolve, h, Deferred.ofValue]
theorem Cwz {d : Option Tmp} {ty : TypeId} {pos : String} {af : Array Edge} {g : Option (Nat × Bool)} {x y : Operand} {c : Nat} {v : Value} (hx : a.eval x = .chan (some c)) (hy : a.eval y = v) (w : World) :
  (execOp a.eval ⟨d, .send x y, ty, pos, af, g⟩).runT P w #[] = (.ok (.comm #[scase c v (.tuple #[])] true .send) w, #[]) := by
 simp [execOp, hx, hy, scase]
end
end Go.X
end
section
namespace Go.X
open Go
theorem cells_chan (x : Option Nat) : (Value.chan x).cells = #[.chan x] := rfl
def Hp.leS (H H' : Hp) : Prop := ∀ b p o, H b = some (p, o) -> ∃ p', H' b = some (p', o) /\ (p' = true -> p = true)
theorem Hp.leS.refl {H : Hp} : H.leS H := fun _ p _ h => ⟨p, h, id⟩
theorem Hp.leS.trans {H H' H'' : Hp} (h : H.leS H') (h' : H'.leS H'') : H.leS H'' := fun b p o hb => let ⟨p', h1, h2⟩ := h b p o hb; let ⟨p'', h3, h4⟩ := h' b p' o h1; ⟨p'', h3, fun e => h2 (h4 e)⟩
theorem Hp.leS.set {H H' : Hp} {b : Nat} {o : Obj} (h : H.leS H') (hb : H b = none) : H.leS (H'.set b o) := fun x p o' hx => by
 obtain ⟨p', h1, h2⟩ := h x p o' hx
 exact ⟨p', by unfold Hp.set; rw [if_neg (fun e => by rw [e, hb] at hx; cases hx)]; exact h1, h2⟩
def Hp.lend (H : Hp) (eb : Nat) : Hp := fun b => if b = eb then H b else (H b).map fun q => (false, q.2)
def Hp.hand (H : Hp) (eb : Nat) : Hp := fun b => if b = eb then none else (H b).map fun q => (false, q.2)
theorem Hp.lend_leS {H : Hp} {eb : Nat} : H.leS (H.lend eb) := fun b p o h => by
 unfold Hp.lend
 by_cases hb : b = eb
 ·rw [if_pos hb]; exact ⟨p, h, id⟩
 ·rw [if_neg hb, h]; exact ⟨false, rfl, fun e => by cases e⟩
theorem Hp.hand_some {H : Hp} {eb b : Nat} {p : Bool} {o : Obj} (h : H b = some (p, o)) (hb : b ≠ eb) : H.hand eb b = some (false, o) := by simp [Hp.hand, hb, h]
theorem Hp.hand_lend {H : Hp} {eb : Nat} : ∀ b p o, H.hand eb b = some (p, o) -> p = false /\ H.lend eb b = some (false, o) := fun b p o h => by
 unfold Hp.hand at h
 unfold Hp.lend
 by_cases hb : b = eb
 ·rw [if_pos hb] at h; cases h
 ·rw [if_neg hb] at h ⊢
  cases hq : H b with
  | none => rw [hq] at h; cases h
  | some q => rw [hq] at h; cases h; exact ⟨rfl, rfl⟩
theorem Hp.lend_own {H : Hp} {eb : Nat} : ∀ b p o, H.lend eb b = some (p, o) -> ∃ p', H b = some (p', o) /\ (p = true -> p' = true) := fun b p o h => by
 unfold Hp.lend at h
 by_cases hb : b = eb
 ·rw [if_pos hb] at h; exact ⟨p, h, id⟩
 ·rw [if_neg hb] at h
  cases hq : H b with
  | none => rw [hq] at h; cases h
  | some q => obtain ⟨p', o'⟩ := q; rw [hq] at h; cases h; exact ⟨p', rfl, fun e => by cases e⟩
end Go.X
namespace Go.Proofs.YtnfnaehonkbknaaGreatDoor
open Go Go.X
def Byy (H H' : Hp) : Prop := ∀ b p c t fr, H b = some (p, .cells c t fr) -> ∃ p', H' b = some (p', .cells c t fr)
theorem SlI.cl {H H' : Hp} {w : Value} {xs : List Int} (hw : SlI H w xs) (hl : Byy H H') : SlI H' w xs := by
 obtain ⟨a, cap, h1, h2, h3⟩ := hw
 refine ⟨a, cap, h1, h2, fun i x hx => ?_⟩
 obtain ⟨b, o, p, c, fr, h4, h5, h6⟩ := h3 i x hx
 obtain ⟨p', h7⟩ := hl _ _ _ _ _ h5
 exact ⟨b, o, p', c, fr, h4, h7, h6⟩
theorem Bvk {H H' : Hp} (h : H.leS H') {b : Nat} (hb : H' b = none) : H b = none := by
 cases hx : H b with
 | none => rfl
 | some q => obtain ⟨p, o⟩ := q; obtain ⟨p', h1, _⟩ := h b p o hx; rw [hb] at h1; cases h1
end Go.Proofs.YtnfnaehonkbknaaGreatDoor
end
section
namespace Go.X
open Go
open Go.Conc Go.Conc.Lib
section
variable {P : Program} {T : Goroutine -> Hp -> Prop} {γ : GhW}
theorem FanW.ctl {g g' : Goroutine} {H : Hp} (hs : g.status = .running) (h : ∀ w, stepG P true g w = .go g' w #[]) (hg : FanW P T γ g' H) : FanW P T γ g H :=
 .step (fun x y => x = g' /\ y = H) hs (fun w hw => ⟨g', w, #[], H, h w, .refl hw, rfl, rfl⟩) fun x y e => by obtain ⟨rfl, rfl⟩ := e; exact hg
def Awa (P : Program) (T : Goroutine -> Hp -> Prop) (b : Frame) (k : List Item) (cs : List Frame) (γ : GhW) : Exit -> Act -> Hp -> Prop
 | .normal, a, H => FanW P T γ (G (fat b a k) cs) H
 | .exit id, a, H => ∀ k', exitTo id k' = exitTo id k -> FanW P T γ (G (fat b a (.code (.exit id) :: k')) cs) H
 | .goto l, a, H => ∀ k', gotoIn l k' = gotoIn l k -> FanW P T γ (G (fat b a (.code (.goto l) :: k')) cs) H
 | .ret, a, H => ∀ k', FanW P T γ (G (fat b a (.code .ret :: k')) cs) H
 | .panic ch, a, H => ∀ k', FanW P T γ (G { fat b a k' with mode := .panicking ch } cs) H
 | .outgrown, _, _ => False
theorem Awa.push {b : Frame} {x : Item} {k : List Item} {cs : List Frame} {e : Exit} {a : Act} {H : Hp} (hx : x.plain = true) (he : e ≠ .normal)
  (h : Awa P T b k cs γ e a H) : Awa P T b (x :: k) cs γ e a H := by
 cases e with
 | normal => exact absurd rfl he
 | exit id => exact fun k' hk => h k' (hk.trans (by cases x <;> simp_all [exitTo, Item.plain]))
 | goto l => exact fun k' hk => h k' (hk.trans (by cases x <;> simp_all [gotoIn, Item.plain]))
 | ret => exact h
 | panic ch => exact h
 | outgrown => exact h
theorem Awa.after {b : Frame} {k : List Item} {cs : List Frame} {e : Exit} {a : Act} {H : Hp} (h : Awa P T b k cs γ e a H) : After P (.own true) (fun g H => FanW P T γ g H) b k cs e a H := by
 cases e with
 | normal => exact .stop h (Hp.le_refl _)
 | exit id => exact fun k' hk => .stop (h k' hk) (Hp.le_refl _)
 | goto l => exact fun k' hk => .stop (h k' hk) (Hp.le_refl _)
 | ret => exact fun k' => .stop (h k') (Hp.le_refl _)
 | panic ch => exact fun k' => .stop (h k') (Hp.le_refl _)
 | outgrown => exact h
end
abbrev Ck1 := GhW -> Exit -> Act -> Hp -> Prop
def wpV (P : Program) (c : Code) (Q : Ck1) (γ : GhW) (a : Act) (H : Hp) : Prop :=
 ∀ (b : Frame) (k : List Item) (cs : List Frame) (T : Goroutine -> Hp -> Prop), b.kind ≠ .early -> b.roundOf = none ->
  (∀ γ' e a' H', Q γ' e a' H' -> Awa P T b k cs γ' e a' H') -> FanW P T γ (G (fat b a (.code c :: k)) cs) H
def opsV (P : Program) (ops : Array Oper) (todo : List Nat) (Q : Ck1) (γ : GhW) (a : Act) (H : Hp) : Prop :=
 ∀ (b : Frame) (k : List Item) (cs : List Frame) (T : Goroutine -> Hp -> Prop), b.kind ≠ .early -> b.roundOf = none ->
  (∀ γ' e a' H', Q γ' e a' H' -> Awa P T b k cs γ' e a' H') -> FanW P T γ (G (fat b a (.inRegion ops todo :: k)) cs) H
section
variable {P : Program} {γ : GhW} {Q : Ck1} {a : Act} {H : Hp}
theorem Awu {c : Code} (h : wpX P (.own true) none c (Q γ) a H) : wpV P c Q γ a H := fun b k cs T hk hl hc =>
 WPG.walkW (h b k cs (fun g H => FanW P T γ g H) hk hl fun e a' H' q => (hc γ e a' H' q).after) fun _ _ h => h
theorem Dxj {ops : Array Oper} {todo : List Nat} (h : opsX P (.own true) none ops todo (Q γ) a H) : opsV P ops todo Q γ a H := fun b k cs T hk hl hc =>
 WPG.walkW (h b k cs (fun g H => FanW P T γ g H) hk hl fun e a' H' q => (hc γ e a' H' q).after) fun _ _ h => h
theorem Byx {c : Code} {R : Exit -> Act -> Hp -> Prop} (h : wpV P c (fun γ e a H => γ = .idle /\ R e a H) .idle a H) : wpX P (.wg P) none c R a H := fun b k cs Stop hk hl hc => by
 refine .phase (fun g H => WPG P (.wg P) Stop g H) (h b k cs _ hk hl fun γ' e a' H' ⟨hγ, q⟩ => ?_) fun _ _ h => h
 subst hγ
 have := hc e a' H' q
 cases e with
 | normal => exact .stop this (Hp.le_refl _)
 | exit id => exact fun k' hk => .stop (this k' hk) (Hp.le_refl _)
 | goto l => exact fun k' hk => .stop (this k' hk) (Hp.le_refl _)
 | ret => exact fun k' => .stop (this k') (Hp.le_refl _)
 | panic ch => exact fun k' => .stop (this k') (Hp.le_refl _)
 | outgrown => exact this
theorem Cku {c : Code} {n : Nat} {e : Nat -> Value} {ds : List Deferred} (p : (Nat -> Value) -> Prop) (hp : p e) (h : ∀ e, p e -> wpV P c Q γ (act n e ds) H) : wpV P c Q γ (act n e ds) H := h e hp
theorem Ajg {x y : Code} (h : wpV P x (fun γ' => thn (fun a' H' => wpV P y Q γ' a' H') (Q γ')) γ a H) : wpV P (.seq x y) Q γ a H := by
 intro b k cs T hk hl hc
 refine .ctl (g' := G (fat b a (.code x :: .code y :: k)) cs) rfl (fun w => by simp [G, stepG, stepG.exec, fat]) ?_
 refine h b (.code y :: k) cs T hk hl fun γ' e a' H' q => ?_
 cases e with
 | normal => exact q b k cs T hk hl hc
 | exit id => exact (hc _ _ _ _ q).push rfl (by simp)
 | goto id => exact (hc _ _ _ _ q).push rfl (by simp)
 | ret => exact Awa.push (x := .code y) (e := .ret) rfl (by simp) (hc _ _ _ _ q)
 | panic ch => exact Awa.push (x := .code y) (e := .panic ch) rfl (by simp) (hc _ _ _ _ q)
 | outgrown => exact q.elim
theorem Dxz {c : Operand} {x y : Code} {t : Bool} (ht : a.eval c = .bool t) (h : wpV P (if t then x else y) Q γ a H) : wpV P (.cond c x y) Q γ a H := by
 intro b k cs T hk hl hc
 refine .ctl (g' := G (fat b a (.code (if t then x else y) :: k)) cs) rfl (fun w => ?_) (h b k cs T hk hl hc)
 have he : (fat b a (.code (.cond c x y) :: k)).eval c = .bool t := by rw [Bve]; exact ht
 simp only [fat] at he
 simp [G, stepG, stepG.exec, fat, he]
theorem Cz2 (h : Q γ .normal a H) : wpV P .skip Q γ a H := fun b k cs _ _ _ hc =>
 .ctl (g' := G (fat b a k) cs) rfl (fun w => by simp [G, stepG, stepG.exec, fat]) (hc _ _ _ _ h)
theorem Cz0 {id : Nat} (h : Q γ (.exit id) a H) : wpV P (.exit id) Q γ a H := fun _ k _ _ _ _ hc => hc _ _ _ _ h k rfl
theorem Bjk {id : Nat} {c : Code} (h : wpV P c (fun γ' => blk id (Q γ')) γ a H) : wpV P (.block id c) Q γ a H := by
 intro b k cs T hk hl hc
 refine .ctl (g' := G (fat b a (.code c :: .inBlock id :: k)) cs) rfl (fun w => by simp [G, stepG, stepG.exec, fat]) ?_
 refine h b (.inBlock id :: k) cs T hk hl fun γ' e a' H' q => ?_
 cases e with
 | normal => exact .ctl (g' := G (fat b a' k) cs) rfl (fun w => by simp [G, stepG, stepG.exec, fat]) (hc _ _ _ _ q)
 | exit id' =>
  by_cases hid : id' = id
  ·simp only [blk, hid, if_true] at q
   subst hid
   intro k' hk'
   have hx : exitTo id' k' = some k := hk'.trans (by simp [exitTo])
   exact .ctl (g' := G (fat b a' k) cs) rfl (fun w => by simp [G, stepG, stepG.exec, fat, hx]) (hc _ _ _ _ q)
  ·simp only [blk, hid, if_false] at q
   have hn : (id == id') = false := by simp; exact fun h => hid h.symm
   exact fun k' hk' => hc _ _ _ _ q k' (hk'.trans (by simp [exitTo, hn]))
 | goto l => exact fun k' hk' => hc _ _ _ _ q k' (hk'.trans (by simp [gotoIn]))
 | ret => exact hc _ _ _ _ q
 | panic ch => exact hc _ _ _ _ q
 | outgrown => exact q.elim
theorem Cz1 {c : Code} (I : Nat -> GhW -> Act -> Hp -> Prop) {n : Nat} (h₀ : I n γ a H)
  (round : ∀ n γ a H, I n γ a H -> wpV P c (fun γ' => thn (fun a' H' => ∃ n', n' < n /\ I n' γ' a' H') (Q γ')) γ a H) : wpV P (.loop c) Q γ a H := by
 intro b k cs T hk hl hc
 have key : ∀ n γ a H, I n γ a H -> FanW P T γ (G (fat b a (.code c :: .inLoop c :: k)) cs) H := by
  intro n
  induction n using Nat.strongRecOn with
  | _ n ih =>
   intro γ a H hI
   refine round n γ a H hI b (.inLoop c :: k) cs T hk hl fun γ' e a' H' q => ?_
   cases e with
   | normal =>
    obtain ⟨n', hlt, hI'⟩ := q
    exact .ctl (g' := G (fat b a' (.code c :: .inLoop c :: k)) cs) rfl (fun w => by simp [G, stepG, stepG.exec, fat]) (ih n' hlt γ' a' H' hI')
   | exit id => exact (hc _ _ _ _ q).push rfl (by simp)
   | goto id => exact (hc _ _ _ _ q).push rfl (by simp)
   | ret => exact Awa.push (x := .inLoop c) (e := .ret) rfl (by simp) (hc _ _ _ _ q)
   | panic ch => exact Awa.push (x := .inLoop c) (e := .panic ch) rfl (by simp) (hc _ _ _ _ q)
   | outgrown => exact q.elim
 exact .ctl (g' := G (fat b a (.code c :: .inLoop c :: k)) cs) rfl (fun w => by simp [G, stepG, stepG.exec, fat]) (key n γ a H h₀)
theorem Avp {id : Nat} {ops : Array Oper} (h : opsV P ops (List.range ops.size) Q γ a H) : wpV P (.region id ops false) Q γ a H :=
 fun b k cs T hk hl hc => .ctl (g' := G (fat b a (.inRegion ops (List.range ops.size) :: k)) cs) rfl (fun w => by simp [G, stepG, stepG.exec, fat]) (h b k cs T hk hl hc)
theorem Bvp {ops : Array Oper} (h : Q γ .normal a H) : opsV P ops [] Q γ a H := fun b k cs _ _ _ hc =>
 .ctl (g' := G (fat b a k) cs) rfl (fun w => by simp [G, stepG, stepG.exec, fat]) (hc _ _ _ _ h)
theorem Bw8 {ops : Array Oper} {i : Nat} {rest : List Nat} {o : Oper} (ho : ops[i]? = some o) (hw : Region.wanted o (yielded ops a.tmps) = true)
  (h : opX P (.own true) none o a H (fun a' H' => opsV P ops rest Q γ a' H') (Q γ)) : opsV P ops (i :: rest) Q γ a H := by
 intro b k cs T hk hl hc
 have hk' : (b.kind == CallKind.early) = false := by simpa using hk
 have hfin : ∀ v, (fat b a (.inRegion ops (i :: rest) :: k)).finish v = fat b (a.put o.dst v) (.inRegion ops rest :: k) := fun v => by rw [Ax7, ho]; rfl
 refine .step (fun g' H' => FanW P T γ g' H') rfl (fun w hs => ?_) fun _ _ h => h
 have hst := stepG_op (main := .own true) (P := P) (b := b) (k := k) (cs := cs) (w := w) (a := a) (rest := rest) ho hw (.inl hl)
 rw [show stepG P true _ w = _ from hst]
 obtain ⟨es, w', H', hm, r, hr, hd'⟩ := Ak0 _ w hs h
 have hm' : Moves H w (seen P b.fn es) H' w' := hm.seen b.fn
 have hr0 : (execOp a.eval o).runT P w #[] = (r, es) := by rw [hr #[]]; simp
 rcases hd' with ⟨x, rfl, hx⟩ | ⟨v, rfl, hv⟩
 ·cases x with
  | value v =>
   refine ⟨G (fat b (a.put o.dst v) (.inRegion ops rest :: k)) cs, w', seen P b.fn es, H', ?_, hm', hx b k cs T hk hl hc⟩
   rw [<- hfin]
   simp [stepG.apply, hr0, G, fat, hk', GStep.after, -Sem.runT_eq]
  | skip =>
   refine ⟨G (fat b (a.put o.dst undef) (.inRegion ops rest :: k)) cs, w', seen P b.fn es, H', ?_, hm', hx b k cs T hk hl hc⟩
   rw [<- hfin]
   simp [stepG.apply, hr0, G, fat, hk', GStep.after, -Sem.runT_eq]
  | defer d =>
   refine ⟨G (fat b ({ a with defers := d :: a.defers }.put o.dst undef) (.inRegion ops rest :: k)) cs, w', seen P b.fn es, H', ?_, hm', hx.2 b k cs T hk hl hc⟩
   have : ({ fat b a (.inRegion ops (i :: rest) :: k) with defers := d :: a.defers } : Frame).finish undef = fat b ({ a with defers := d :: a.defers }.put o.dst undef) (.inRegion ops rest :: k) := by
    have := Ax7 b { a with defers := d :: a.defers } ops i rest k undef
    rw [ho] at this
    exact this
   rw [<- this]
   simp [stepG.apply, hr0, G, fat, hk', GStep.after, -Sem.runT_eq]
  | enter f args =>
   refine ⟨G (Frame.enter P f args .normal) (fat b a (.inRegion ops (i :: rest) :: k) :: cs), w', seen P b.fn es, H', ?_, hm', ?_⟩
   ·simp [stepG.apply, hr0, G, fat, hk', GStep.after, -Sem.runT_eq]
   ·refine WPG.walkW (hx _ _ (fun g H => FanW P T γ g H) (fun v H₁ r => ?_) fun ch H₁ r => ?_) fun _ _ h => h
    ·rw [hfin]; exact .stop (r b k cs T hk hl hc) (Hp.le_refl _)
    ·exact .stop ((hc _ (.panic ch) a H₁ r) _) (Hp.le_refl _)
  | round l f tmps ars body =>
   refine ⟨G (Frame.round l f tmps ars body .normal) (fat b a (.inRegion ops (i :: rest) :: k) :: cs), w', seen P b.fn es, H', ?_, hm', ?_⟩
   ·simp [stepG.apply, hr0, G, fat, hk', GStep.after, -Sem.runT_eq]
   ·refine WPG.walkW (hx _ _ (fun g H => FanW P T γ g H) (fun v H₁ r => ?_) fun ch H₁ r => ?_) fun _ _ h => h
    ·rw [hfin]; exact .stop (r b k cs T hk hl hc) (Hp.le_refl _)
    ·exact .stop ((hc _ (.panic ch) a H₁ r) _) (Hp.le_refl _)
  | _ => exact hx.elim
 ·refine ⟨G { fat b a (.inRegion ops (i :: rest) :: k) with mode := .panicking [{ v, recovered := false }] } cs, w', seen P b.fn es, H', ?_, hm', hc _ (.panic _) a H' hv _⟩
  simp [stepG.apply, hr0, G, fat, hk', GStep.after, Frame.raise, -Sem.runT_eq]
theorem Dkl {c : Code} {ch wg : Nat} {ty : TypeId} (D : Nat -> Prop) (hc : H ch = some (true, .chan 0 #[] false 0 0 false)) (hb : H wg = some (true, wgO ty 0 0)) (hD : ∀ x, D x -> ∃ o, H x = some (true, o)) (h : wpV P c Q (.busy ch wg ty 0 0 [] false D) a ((H.del ch).del wg)) : wpV P c Q .idle a H :=
 fun b k cs T hk hl hq => .opn hc hb hD (h b k cs T hk hl hq)
theorem Dvr (c : Nat) (z v : Value) (ok : Bool) : commResult #[rcase c z] (.recv true) 0 v ok = .tuple #[v, .bool ok] := by
 simp [commResult, rcase]
theorem Dkc {ops : Array Oper} {i : Nat} {rest : List Nat} {o : Oper} {d : Deferred} {f : Fn} {cap' : Array Value} {c wg n : Nat} {ty : TypeId} {D : Nat -> Prop} {L : List Value} {v : Value} {H' Hc : Hp} (ho : ops[i]? = some o) (hw : Region.wanted o (yielded ops a.tmps) = true)
  (hr : ∀ w, Sat H w -> (execOp a.eval o).runT P w #[] = (.ok (.spawn d) w, #[])) (hd : d.target = .fn f cap')
  (hc : ∀ b p o, Hc b = some (p, o) -> p = false /\ H' b = some (false, o)) (hH : ∀ b p o, H' b = some (p, o) -> ∃ p', H b = some (p', o) /\ (p = true -> p' = true))
  (hwk : WPG P (.own false) (Bzg P c wg ty v) (born P d) Hc) (hn : opsV P ops rest Q (.busy c wg ty n 0 (v :: L) false D) (a.put o.dst undef) H') : opsV P ops (i :: rest) Q (.busy c wg ty n 0 L false D) a H :=
 fun b k cs T hk hl' hq => .spawn rfl (fun w hs => Bjb (main := .own true) ho hw hk hl' (hr w hs) hd) hc hH hwk.othW (hn b k cs T hk hl' hq)
theorem Cwo {ops : Array Oper} {i : Nat} {rest : List Nat} {o : Oper} {d : Deferred} {f : Fn} {cap' : Array Value} {c wg n : Nat} {ty : TypeId} {D : Nat -> Prop} {L : List Value} {H' Hc : Hp} (ho : ops[i]? = some o) (hw : Region.wanted o (yielded ops a.tmps) = true) (hl : n = L.length)
  (hr : ∀ w, Sat H w -> (execOp a.eval o).runT P w #[] = (.ok (.spawn d) w, #[])) (hd : d.target = .fn f cap')
  (hc : ∀ b p o, Hc b = some (p, o) -> p = false /\ H' b = some (false, o)) (hH : ∀ b p o, H' b = some (p, o) -> ∃ p', H b = some (p', o) /\ (p = true -> p' = true))
  (hwk : ∃ ρ, OthW P c wg ty ρ (born P d) (.wait Hc 0 n)) (hn : opsV P ops rest Q (.busy c wg ty n 0 L true D) (a.put o.dst undef) H') : opsV P ops (i :: rest) Q (.busy c wg ty n 0 L false D) a H :=
 fun b k cs T hk hl' hq => .hire rfl hl (fun w hs => Bjb (main := .own true) ho hw hk hl' (hr w hs) hd) hc hH hwk (hn b k cs T hk hl' hq)
theorem Cwp {ops : Array Oper} {i : Nat} {rest : List Nat} {o : Oper} {c wg n : Nat} {ty : TypeId} {D : Nat -> Prop} {L : List Value} {z : Value} (ho : ops[i]? = some o) (hw : Region.wanted o (yielded ops a.tmps) = true) (hL : L ≠ [])
  (hr : ∀ w, Sat H w -> (execOp a.eval o).runT P w #[] = (.ok (.comm #[rcase c z] true (.recv true)) w, #[]))
  (hn : ∀ v L', L.Perm (v :: L') -> opsV P ops rest Q (.busy c wg ty n 0 L' true D) (a.put o.dst (.tuple #[v, .bool true])) H) : opsV P ops (i :: rest) Q (.busy c wg ty n 0 L true D) a H :=
 fun b k cs T hk hl' hq => .recv rfl hL (fun w hs => Aw9 (main := .own true) ho hw hk hl' (hr w hs)) fun v L' hp => by
  rw [Cv4 ho, Dvr]
  exact hn v L' hp b k cs T hk hl' hq
theorem Cwq {ops : Array Oper} {i : Nat} {rest : List Nat} {o : Oper} {c wg n : Nat} {ty : TypeId} {D : Nat -> Prop} {z : Value} (G' : Hp) (ho : ops[i]? = some o) (hw : Region.wanted o (yielded ops a.tmps) = true)
  (hr : ∀ w, Sat H w -> (execOp a.eval o).runT P w #[] = (.ok (.comm #[rcase c z] true (.recv true)) w, #[])) (hG : ∀ b p o, G' b = some (p, o) -> ∃ p', H b = some (p', o) /\ (p = true -> p' = true ∨ D b))
  (hn : opsV P ops rest Q .idle (a.put o.dst (.tuple #[z, .bool false])) G') : opsV P ops (i :: rest) Q (.busy c wg ty n 0 [] true D) a H :=
 fun b k cs T hk hl' hq => .shut rfl (fun w hs => Aw9 (main := .own true) ho hw hk hl' (hr w hs)) (fun w hs => Aw9 (main := .own true) ho hw hk hl' (hr w hs)) hG (by
  rw [Cv4 ho, Dvr]
  exact hn b k cs T hk hl' hq)
theorem Dxi {Lk : WgLink} (HL : WgLib P Lk) {ops : Array Oper} {i : Nat} {rest : List Nat} {o : Oper} {x y : Operand} {ats : Array TypeId} {c wg n : Nat} {D : Nat -> Prop} {L : List Value} (ho : ops[i]? = some o) (hw : Region.wanted o (yielded ops a.tmps) = true)
  (hop : o.op = .call { callee := .value (.func Lk.add), args := #[x, y], argTypes := ats }) (hx : a.eval x = .pointer (some ⟨wg, 0, none⟩)) (hy : a.eval y = .int .i64 1) (hn1 : n < 99)
  (hn : opsV P ops rest Q (.busy c wg Lk.tWg (n + 1) 0 L false D) (a.put o.dst (.tuple #[])) H) : opsV P ops (i :: rest) Q (.busy c wg Lk.tWg n 0 L false D) a H := fun b k cs T hk hl' hq => by
 have hfat : ∀ (a : Act) (todo : List Item), fat b a todo = b.at a todo := fun a todo => by
  cases b
  simp only at hl'
  subst hl'
  rfl
 have hn' := hn b k cs T hk hl' hq
 simp only [hfat] at hn' ⊢
 refine (Quiet.fan (d := 0)).enter2 (b := b) ho hw hk hop HL.f_add (Go.ConcR.Gen.nm_add Lk) Bqh #[.pointer (some ⟨wg, 0, none⟩), .int .i64 1] 115 (by simp [hx, hy]) rfl ?_
 refine Dx9 HL hn1 ?_
 rw [ho]
 exact hn'
end
end Go.X
end
section
namespace Go.X
open Go
open Go.Conc Go.RowKit Go.Conc.Lib Go.ConcR.Gen Go.ConcN.Gen
open Go.ConcR (KK)
section
variable {P : Program} {md : Md} {Stop : Goroutine -> Hp -> Prop} {a : Act} {H : Hp} {b : Frame} {k : List Item} {cs : List Frame}
theorem WPG.code {x : Code} (hk : b.kind ≠ .early) (hl : b.roundOf = none) (h : wpX P md none x (only fun a' H' => WPG P md Stop (G (fat b a' k) cs) H') a H) : WPG P md Stop (G (fat b a (.code x :: k)) cs) H :=
 h b k cs Stop hk hl fun e a' H' q => by cases e <;> first | exact q | exact q.elim
theorem WPG.seqX {x y : Code} (hk : b.kind ≠ .early) (hl : b.roundOf = none) (h : wpX P md none x (only fun a' H' => WPG P md Stop (G (fat b a' (.code y :: k)) cs) H') a H) : WPG P md Stop (G (fat b a (.code (.seq x y) :: k)) cs) H :=
 .ctl (g' := G (fat b a (.code x :: .code y :: k)) cs) rfl (fun w => by simp [G, stepG, stepG.exec, fat]) (WPG.code hk hl h)
theorem WPG.regionX {id : Nat} {ops : Array Oper} (h : WPG P md Stop (G (fat b a (.inRegion ops (List.range ops.size) :: k)) cs) H) : WPG P md Stop (G (fat b a (.code (.region id ops false) :: k)) cs) H :=
 .ctl (g' := G (fat b a (.inRegion ops (List.range ops.size) :: k)) cs) rfl (fun w => by simp [G, stepG, stepG.exec, fat]) h
theorem WPG.endX {ops : Array Oper} (h : WPG P md Stop (G (fat b a k) cs) H) : WPG P md Stop (G (fat b a (.inRegion ops [] :: k)) cs) H :=
 .ctl (g' := G (fat b a k) cs) rfl (fun w => by simp [G, stepG, stepG.exec, fat]) h
theorem Cv3 {b : Frame} {a : Act} {todo : List Item} (hl : b.roundOf = none) : fat b a todo = b.at a todo := by
 cases b
 simp only at hl
 subst hl
 rfl
end
theorem Quiet.wpg {P : Program} {Stop : Goroutine -> Hp -> Prop} {H : Hp} : Quiet P false (fun _ => True) fun g => WPG P (.own false) Stop g H :=
 ⟨fun hs h hn => .ctl hs (fun w => h w trivial) hn⟩
variable {L : WgLink}
theorem Dwv {P : Program} (HL : WgLib P L) {K : Hp} {f : FuncId} {fn : Func} {ops : Array Oper} {i : Nat} {o : Oper} {a : Act} {c Wg : Nat} {v z : Value} (ho : ops[i]? = some o) (hw : Region.wanted o (yielded ops a.tmps) = true)
  (hr : ∀ w, (execOp a.eval o).runT P w #[] = (.ok (.comm #[scase c v z] true .send) w, #[])) (hd : a.defers = [dcall L.done #[.pointer (some ⟨Wg, 0, none⟩)]]) (hf : P.funcs[f]? = some fn) (hres : fn.results = #[]) :
  Bzg P c Wg L.tWg v (G (fat (baseD f) a [.inRegion ops [i]]) [Avb P]) K := by
 refine ⟨rfl, _, z, fun w _ => Aw9 (main := .own false) ho hw (by simp [baseD]) rfl (hr w), ?_⟩
 have hs : Go.Conc.served (G (fat (baseD f) a [.inRegion ops [i]]) [Avb P]) undef = G (fat (baseD f) (a.put o.dst undef) [.inRegion ops []]) [Avb P] := by
  have hfin : (fat (baseD f) a [.inRegion ops [i]]).finish undef = fat (baseD f) (a.put o.dst undef) [.inRegion ops []] := by rw [Ax7, ho]; rfl
  simp [Go.Conc.served, G, hfin]
 rw [hs, Cv3 rfl]
 have hd' : (a.put o.dst undef).defers = [dcall L.done #[.pointer (some ⟨Wg, 0, none⟩)]] := by rw [<- hd]; cases o.dst <;> rfl
 generalize a.put o.dst undef = a' at *
 have hJ := Quiet.sent (P := P) (c := c) (b := Wg) (ty := L.tWg) K
 refine hJ.region_end (hJ.ends (hJ.unwind_enter hd' HL.f_done (Go.ConcR.Gen.nm_done L) (c := body_done L) rfl ?_))
 obtain ⟨qt, hq⟩ : ∃ n, QuitsD P n 0 (G { (baseD f).at ⟨a'.tmps, []⟩ [] with mode := .returning } [Avb P]) := by
  refine (Quiet.quits 0).ctl (g' := G (Avb P) []) rfl (fun w => ?_) ((Quiet.quits 0).ctl (g' := { G (Avb P) [] with status := .finished }) rfl (fun w => ?_) ⟨0, rfl, rfl⟩)
  ·simp [G, stepG, unwind, doReturn, Frame.at, baseD, hf, results, hres, Avb, goexitEntry, GStep.after, seen_none]
  ·simp [G, stepG, unwind, Avb, goexitEntry, Frame.catches]
   rfl
 exact Dwj HL K (qt := qt) rfl hq
theorem Cke {P : Program} {f : FuncId} {fn : Func} {a : Act} (hf : P.funcs[f]? = some fn) (hres : fn.results = #[]) (had : a.defers = []) : QuitsIn P 3 (G (fat (baseD f) a []) [Avb P]) := by
 refine .inr ⟨rfl, G { fat (baseD f) a [] with mode := .returning } [Avb P], fun w => by simp [G, stepG, stepG.exec, fat, baseD]; rfl, ?_⟩
 refine .inr ⟨rfl, G (Avb P) [], fun w => ?_, ?_⟩
 ·simp [G, stepG, unwind, doReturn, fat, baseD, had, hf, results, hres, Avb, goexitEntry, GStep.after, seen_none]
 ·refine .inr ⟨rfl, { G (Avb P) [] with status := .finished }, fun w => ?_, rfl⟩
  simp [G, stepG, unwind, Avb, goexitEntry, Frame.catches]
  rfl
theorem Dxq (P : Program) (fn : FuncId) (c : Nat) : seen P fn (clE c) = clE c := by
 rw [seen_def]
 simp [seenStep, clE]
theorem closeW {P : Program} {K : Hp} {f : FuncId} {fn : Func} {ops : Array Oper} {i : Nat} {o : Oper} {a : Act} {c Wg : Nat} {tWg : TypeId} {x : Operand} {ats : Array TypeId} (ho : ops[i]? = some o) (hw : Region.wanted o (yielded ops a.tmps) = true)
  (hop : o.op = .call { callee := .builtin .close, args := #[x], argTypes := ats }) (hx : a.eval x = .chan (some c)) (hd : a.defers = []) (hf : P.funcs[f]? = some fn) (hres : fn.results = #[]) :
  ∃ ρ, OthW P c Wg tWg ρ (G (fat (baseD f) a [.inRegion ops [i]]) [Avb P]) (.late K) := by
 obtain ⟨d, op, ty, pos, af, g⟩ := o
 simp only at hop
 subst hop
 refine Dqm (g' := G (fat (baseD f) (a.put d (.tuple #[])) [.inRegion ops []]) [Avb P]) rfl ?_ (fun w r hs hc => ?_) rfl ?_
 ·simp [mayWake, G, fat, ho]
 ·have h1 := run_close_open (P := P) ats ty hc
  have h2 := events_close_open (P := P) (es := #[]) ats ty hc
  have hrun : (execOp a.eval ⟨d, .call { callee := .builtin .close, args := #[x], argTypes := ats }, ty, pos, af, g⟩).runT P w #[] = (.ok (.value (.tuple #[])) (World.lay w c (.chan 0 #[] true r r false)), clE c) := by
   simp [execOp, resolve, invoke, hx, builtin, h1, h2, World.lay, clE]
  have hfin : (fat (baseD f) a [.inRegion ops [i]]).finish (.tuple #[]) = fat (baseD f) (a.put d (.tuple #[])) [.inRegion ops []] := by rw [Ax7, ho]; rfl
  have hk' : ((baseD f).kind == CallKind.early) = false := rfl
  refine (stepG_op (main := .own false) (b := baseD f) (k := []) (cs := [Avb P]) (rest := []) ho hw (.inl rfl)).trans ?_
  simp only [stepG.apply, hrun]
  rw [<- hfin]
  simp [G, fat, hk', GStep.after, Dxq]
 ·have hd' : (a.put d (.tuple #[])).defers = [] := by rw [<- hd]; cases d <;> rfl
  exact ⟨_, Ckf (g' := G (fat (baseD f) (a.put d (.tuple #[])) []) [Avb P]) rfl (fun w => by simp [G, stepG, stepG.exec, fat]) (Cke hf hres hd')⟩
end Go.X
end
section
namespace Go.X
open Go
open Go.Conc
theorem FnX.goodW {P : Program} {f : FuncId} {fn : Func} {args : Array Value} {W : World} {v₀ : Value} (h : FnX P (.wg P) f args (Bqc W) fun e _ => e = .returned v₀) (hf : P.funcs[f]? = some fn)
  (hr : ∀ tmps w v w', (results fn tmps).run P w = .ok v w' -> w' = w) (hi : P.inits.idxOf? f = none) :
  Ends P (fun v w => v = v₀ /\ Base W w) (solo (G (Frame.enter P f args .normal) []) W) #[] := by
 rw [solo_eq_crowd]
 have hW0 := h [] (fun g H => ∃ fr, g = G fr [] /\ fr.fn = f /\ Leaving P fr H fun e _ => e = .returned v₀) fun fr H' hfn hl => .stop ⟨fr, rfl, hfn, hl⟩ (Hp.le_refl _)
 have hI : WI P W .idle (Bqc W) #[G (Frame.enter P f args .normal) []] W #[] [] 0 (fun _ => .off 0) (fun _ => False) := by
  refine ⟨⟨fun x K hx => ?_, fun x y K K' hxy hx hy => ?_, fun x K hx b p o hb i a ha => (by simp [touchAt, Trace.act?] at ha), past_nil.clean, fun i a b ha => (by simp [touchAt, Trace.act?] at ha)⟩, rfl, fun i x hx => (by simp at hx), fun _ _ => rfl, rfl, fun i a ha => (by simp [touchAt, Trace.act?] at ha), fun i op a h => (by simp at h), fun y hy => hy.elim, ⟨rfl, rfl, Nat.le_refl _, fun _ _ => rfl⟩, fun x K b o hx hb => ?_, fun _ _ => rfl, rfl, fun _ i x K _ hq => (by cases hq), fun i x K st _ hq => (by cases hq), fun i => ⟨0, rfl⟩⟩
  ·by_cases hx0 : x = 0
   ·subst hx0; cases hx
    exact fun b p o hb => (Bqd hb).2
   ·simp [hpW, hx0, PhW.mem] at hx
  ·by_cases hx0 : x = 0
   ·by_cases hy0 : y = 0
    ·exact absurd (hx0.trans hy0.symm) hxy
    ·simp [hpW, hy0, PhW.mem] at hy
   ·simp [hpW, hx0, PhW.mem] at hx
  ·by_cases hx0 : x = 0
   ·subst hx0; cases hx
    exact absurd (Bqd hb).1 (by simp)
   ·simp [hpW, hx0, PhW.mem] at hx
 refine FanW.ends (W := W) ?_ hW0.fanW _ _ _ _ _ _ _ _ hI rfl
 rintro g H ⟨fr, rfl, hfn, hl⟩
 refine ⟨rfl, fun w hsat hB => ?_⟩
 rcases hl with ⟨hm, hd, hk, fn', hf', hres⟩ | ⟨ch, _, _, _, _, hres⟩
 ·obtain rfl : fn' = fn := Option.some.inj (hf'.symm.trans (by rw [hfn]; exact hf))
  obtain ⟨es, w', H', hmv, r, hrun, hd'⟩ := Ak0 _ w hsat hres
  have hr0 : (results fn' fr.tmps).runT P w #[] = (r, es) := by rw [hrun #[]]; simp
  rcases hd' with ⟨v, rfl, hv⟩ | ⟨v, _, hv⟩
  ·have hrun' : (results fn' fr.tmps).run P w = .ok v w' := by
    have := congrArg Prod.fst hr0
    simpa using this
   have := hr _ _ _ _ hrun'
   subst this
   have hv' : v = v₀ := by injection hv
   subst hv'
   refine ⟨v, seen P fr.fn es, ?_, ?_, rfl, hB⟩
   ·have hi' : P.inits.idxOf? fr.fn = none := by rw [hfn]; exact hi
    simp [G, stepG, unwind, doReturn, hm, hd, hk, hf', hr0, hi', GStep.after, -Sem.runT_eq]
   ·have hq := hmv.seen (P := P) fr.fn
    exact ⟨hsat, hq.size, fun _ _ _ => rfl, fun b p o' hb => .inl ⟨o', hb, fun _ => rfl⟩, rfl, rfl, rfl, hq.evs, hq.low⟩
  ·exact hv.elim
 ·cases hres
end Go.X
end
section
namespace Go.Proofs.YtnfnaehonkbknaaGreatDoor
open Go
def lk : Go.Conc.Lib.WgLink := { add := 75, done := 77, wait := 80, relMerge := 85, disable := 86, enable := 87, inBubble := 88, associate := 89, fatal := 90, uOr := 91, uAdd := 92, raceRead := 93, uLoad := 94, uStore := 95, disassociate := 96, semrelease := 97, acquire := 100, isAssociated := 101, uCas := 102, raceWrite := 103, semacquire := 104, orU64 := 108, addU64 := 109, loadU64 := 110, storeU64 := 111, casU64 := 116, tWgP := 161, tUP := 149, tAssoc := 163, tWg := 143, tAU := 140, tU64 := 78, tUint := 129, tU32 := 141, tPU32 := 167, tPAU := 194, tPU64 := 196, tNoCopy := 136, tANoCopy := 137, tAlign64 := 138 }
theorem wgLib : Go.Conc.Lib.WgLib Tryz.prog lk :=
 ⟨Tryz.func75, Tryz.func77, Tryz.func80, Tryz.func85, Tryz.func86, Tryz.func87, Tryz.func88, Tryz.func89, Tryz.func90, Tryz.func91, Tryz.func92, Tryz.func93, Tryz.func94, Tryz.func95, Tryz.func96, Tryz.func97, Tryz.func100, Tryz.func101, Tryz.func102, Tryz.func103, Tryz.func104, Tryz.func108, Tryz.func109, Tryz.func110, Tryz.func111, Tryz.func116, Tryz.underlying161, Tryz.runUnderlying161, Tryz.sizeOf161, Tryz.isAgg161, Tryz.zeroValue161, Tryz.underlying149, Tryz.runUnderlying149, Tryz.sizeOf149, Tryz.isAgg149, Tryz.zeroValue149, Tryz.underlying163, Tryz.runUnderlying163, Tryz.sizeOf163, Tryz.isAgg163, Tryz.zeroValue163, Tryz.underlying143, Tryz.runUnderlying143, Tryz.sizeOf143, Tryz.isAgg143, Tryz.zeroValue143, Tryz.underlying140, Tryz.runUnderlying140, Tryz.sizeOf140, Tryz.isAgg140, Tryz.zeroValue140, Tryz.underlying78, Tryz.runUnderlying78, Tryz.sizeOf78, Tryz.isAgg78, Tryz.zeroValue78, Tryz.underlying129, Tryz.runUnderlying129, Tryz.sizeOf129, Tryz.isAgg129, Tryz.zeroValue129, Tryz.underlying141, Tryz.runUnderlying141, Tryz.sizeOf141, Tryz.isAgg141, Tryz.zeroValue141, Tryz.underlying167, Tryz.runUnderlying167, Tryz.sizeOf167, Tryz.isAgg167, Tryz.zeroValue167, Tryz.underlying194, Tryz.runUnderlying194, Tryz.sizeOf194, Tryz.isAgg194, Tryz.zeroValue194, Tryz.underlying196, Tryz.runUnderlying196, Tryz.sizeOf196, Tryz.isAgg196, Tryz.zeroValue196, Tryz.underlying0, Tryz.runUnderlying0, Tryz.sizeOf0, Tryz.isAgg0, Tryz.zeroValue0, Tryz.underlying3, Tryz.runUnderlying3, Tryz.sizeOf3, Tryz.isAgg3, Tryz.zeroValue3, Tryz.underlying4, Tryz.runUnderlying4, Tryz.sizeOf4, Tryz.isAgg4, Tryz.zeroValue4, Tryz.underlying9, Tryz.runUnderlying9, Tryz.sizeOf9, Tryz.isAgg9, Tryz.zeroValue9, Tryz.underlying20, Tryz.runUnderlying20, Tryz.sizeOf20, Tryz.isAgg20, Tryz.zeroValue20, Tryz.underlying21, Tryz.runUnderlying21, Tryz.sizeOf21, Tryz.isAgg21, Tryz.zeroValue21, by kernel_rfl, by kernel_rfl⟩
end Go.Proofs.YtnfnaehonkbknaaGreatDoor
end
section
namespace Go.Proofs.YtnfnaehonkbknaaGreatDoor
open Go Go.X
def Bq0 := (fun H => Bzl (H := H) Tryz.underlying22 Tryz.sizeOf3)
theorem Cj0 (m : Md) (H : Hp) (v : Value) (xs : List Int) (hv : SlI H v xs) (hl : xs.length <= 1000000) :
  FnX Tryz.prog m 39 #[v] H fun e H' => ∃ w, e = .returned w /\ RowX none H H' w 3 (ints xs) := by
 obtain ⟨a, cap, rfl, hcap, hx⟩ := hv
 refine Aqo Tryz.func39 rfl Tryz.ntmps39 (by simp) ?_
 (refine @unH _ (zA @Bq0 ?_); (repeat refine inC fun hc => ?_); try refine inK fun K hK => ?_)
 intro nb hnb
 have hle : H.le (H.set nb (.cells #[] 3 (0, 0))) := Hp.le_set hnb
 have hrow0 : Aks H (H.set nb (.cells #[] 3 (0, 0))) (.slice (some ⟨nb, 0, none⟩) 0 0) 3 1 0 (ints []) := .inr ⟨nb, #[], 0, hnb, rfl, rfl, rfl, rfl, Nat.le_refl _, fun i u hi => by simp [ints] at hi⟩
 cases xs with
 | nil =>
  ((try refine @unH _ (zX @Bq0 ?_)); (try (refine hK _ _ ?_; clear hK K; try refine @unH _ (zQ ?_))); refine @unH _ (zA @Bq0 ?_); (repeat refine inC fun hc => ?_); try refine inK fun K hK => ?_)
  refine Ayn Tryz.underlying22 Tryz.sizeOf3 _ _ _ _ _ _ _ (Nat.le_refl _) _ _ ?_
  ((try refine @unH _ (zX @Bq0 ?_)); (try (refine hK _ _ ?_; clear hK K; try refine @unH _ (zQ ?_))); refine @unH _ (zA @Bq0 ?_); (repeat refine inC fun hc => ?_); try refine inK fun K hK => ?_)
  (refine @unH _ ?_; refine z9 Tryz.results39 ?_)
  exact ⟨_, rfl, Lex.of hle, .inr ⟨nb, #[], 0, hnb, Axf, rfl, rfl, Nat.le_refl _, fun i u hi => by simp [ints] at hi⟩⟩
 | cons x0 xs0 =>
  obtain ⟨b', o', p', c', fr', h', hb', _⟩ := hx 0 x0 rfl
  subst h'
  ((try refine @unH _ (zX @Bq0 ?_)); (try (refine hK _ _ ?_; clear hK K; try refine @unH _ (zQ ?_))); refine @unH _ (zA @Bq0 ?_); (repeat refine inC fun hc => ?_); try refine inK fun K hK => ?_)
  have hgne : b' ≠ nb := Aqq hb' hnb
  refine Bzh hrow0 (Hp.le_refl _) (ys := x0 :: xs0) rfl (fun h => absurd h (by rw [hb']; simp)) (fun j y hj => ?_) (by simp at hl ⊢; omega) _ _ _ _ (fun v' H1 H2 hr hl2 => ?_)
  ·obtain ⟨b2, o2, p2, c2, fr2, e2, hb2, hc2⟩ := hx j y hj
   cases e2
   rw [Bzn hgne, cell_of hb2]
   exact hc2
  ·((try refine @unH _ (zX @Bq0 ?_)); (try (refine hK _ _ ?_; clear hK K; try refine @unH _ (zQ ?_))); refine @unH _ (zA @Bq0 ?_); (repeat refine inC fun hc => ?_); try refine inK fun K hK => ?_)
   (refine @unH _ ?_; refine z9 Tryz.results39 ?_)
   refine ⟨_, rfl, ?_⟩
   have hlen := hr.len
   rcases hr with ⟨_, h0, _⟩ | ⟨b3, c3, cap3, hb3, rfl, rfl, hs3, hl3, hn3, hg3⟩
   ·simp at h0
   ·refine ⟨Lex.of (Hp.le_trans (Hp.le_set hb3) hl2), .inr ⟨b3, c3, cap3, hb3, hl2 _ _ Axf, ?_, by simpa using hs3, ?_, ?_⟩⟩
    ·simp [ints]
    ·simpa [ints] using hn3
    ·intro i u hi; exact hg3 i u (by simpa using hi)
end Go.Proofs.YtnfnaehonkbknaaGreatDoor
end
section
namespace Go.X
open Go
section
variable {P : Program} {H : Hp}
end
end Go.X
namespace Go.Proofs.YtnfnaehonkbknaaGreatDoor
open Go Go.X Go.Extern
theorem Cwk {P : Program} {t : TypeId} {d : TypeDesc} (hu : P.underlying t = some d) (hd : aggB d = false) (a : Addr) (H : Hp) (K : Value -> Hp -> Prop) (E : Value -> Hp -> Prop) : wpS P (loadVar t a) H K E = ∃ v, H.cell a = some v /\ K v H := by
 unfold loadVar
 rw [Aqa, Aky hu, hd]
 simp only [Bool.false_eq_true, if_false]
 show (Mode.plain = .plain /\ ∃ v, H.cell a = some v /\ K v H) = _
 simp
end Go.Proofs.YtnfnaehonkbknaaGreatDoor
end
section
namespace Go.Proofs.YtnfnaehonkbknaaGreatDoor
open Go Go.X
structure Bd where
 lo : Int
 hi : Int
 some : Bool
def bd0 : Bd := ⟨0, 0, false⟩
def Aza (b : Bd) (x : Int) : Bd := if b.some then ⟨min b.lo x, max b.hi x, true⟩ else ⟨x, x, true⟩
structure Dr where
 a : Int
 b : Int
 mn : Int
 mx : Int
structure Ns where
 pl : Int
 hr : Int
 sm : Bool
structure Sm where
 places : Int
 doors : List Dr
 hampers : List Int
 noses : List Ns
structure DrOk (places : Int) (d : Dr) : Prop where
 a0 : 0 <= d.a
 a1 : d.a < places
 b0 : 0 <= d.b
 b1 : d.b < places
 ne : d.a ≠ d.b
 m0 : 1 <= d.mn
 m1 : d.mn <= d.mx
 m2 : d.mx <= 4
structure NsOk (places : Int) (n : Ns) : Prop where
 p0 : 0 <= n.pl
 p1 : n.pl < places
 h0 : 0 <= n.hr
 h1 : n.hr <= 12
structure SmOk (s : Sm) : Prop where
 p0 : 1 <= s.places
 p1 : s.places <= 6
 dl : s.doors.length <= 6
 dk : ∀ d ∈ s.doors, DrOk s.places d
 h0 : 1 <= s.hampers.length
 h1 : s.hampers.length <= 3
 hk : ∀ h ∈ s.hampers, 0 <= h /\ h < s.places
 hd : s.hampers.Nodup
 nl : s.noses.length <= 4
 nk : ∀ n ∈ s.noses, NsOk s.places n
def gI (c : List Int) (p : Int) : Int := c.getD p.toNat 0
def Akv (c : List Int) (d : Dr) (t : Int) : List Int :=
 (c.set d.a.toNat (min (gI c d.a) (gI c d.b + t))).set d.b.toNat
  (min (gI (c.set d.a.toNat (min (gI c d.a) (gI c d.b + t))) d.b) (gI (c.set d.a.toNat (min (gI c d.a) (gI c d.b + t))) d.a + t))
def Ajk : List Dr -> List Int -> List Int -> List Int
 | d :: ds, t :: ts, c => Ajk ds ts (Akv c d t)
 | _, _, c => c
def Avz (ds : List Dr) (ts : List Int) : Nat -> List Int -> List Int
 | 0, c => c
 | n + 1, c => if Ajk ds ts c = c then c else Avz ds ts n (Ajk ds ts c)
def Cqq (p : Int) : List Int := (List.replicate 6 (99 : Int)).set p.toNat 0
def Aq4 (ds : List Dr) (p : Int) (ts : List Int) : List Int := Avz ds ts 600 (Cqq p)
def hrsF (d : Dr) : List Int := ((List.range 5).map fun (n : Nat) => (n : Int)).filter fun n => decide (d.mn <= n /\ n <= d.mx)
def Axv : List Dr -> List (List Int)
 | [] => [[]]
 | d :: ds => (hrsF d).flatMap fun n => (Axv ds).map (n :: ·)
def pad6 (l : List Int) : List Int := l ++ List.replicate (6 - l.length) 0
def begN : List Ns -> List Int -> Int -> Int -> Option (Int × Int)
 | [], _, lo, hi => some (lo, hi)
 | n :: ns, c, lo, hi =>
  if (n.sm = true /\ gI c n.pl = 99) ∨ (if n.sm then min hi (n.hr - gI c n.pl) else hi) < (if n.sm then lo else max lo (n.hr - gI c n.pl + 1)) then none
  else begN ns c (if n.sm then lo else max lo (n.hr - gI c n.pl + 1)) (if n.sm then min hi (n.hr - gI c n.pl) else hi)
def fitB (ns : List Ns) (c : List Int) (b : Int) : Bool :=
 match begN ns c 0 12 with
 | none => false
 | some (lo, hi) => decide (lo <= b /\ b <= hi)
structure Hint where
 bs : List Bd
 first : List Int
 some : Bool
def Bw0 : Hint := ⟨List.replicate 6 bd0, List.replicate 6 0, false⟩
def Azd (places b : Int) (x : Hint) (tc : List Int × List Int) : Hint :=
 ⟨x.bs.mapIdx fun p w => if (p : Int) < places then Aza w (min 99 (b + gI tc.2 p)) else w, if x.some then x.first else tc.1, true⟩
def trL (s : Sm) (p : Int) : List (List Int × List Int) := (Axv s.doors).map fun t => (pad6 t, Aq4 s.doors p (pad6 t))
def Ays (s : Sm) (L : List (List Int × List Int)) (b : Int) : Hint := (L.filter fun tc => fitB s.noses tc.2 b).foldl (Azd s.places b) Bw0
def byL (s : Sm) (L : List (List Int × List Int)) : List Hint := (List.range 13).map fun (b : Nat) => Ays s L b
structure Trail where
 ham : Int
 hs : List Hint
def Azw (s : Sm) (i : Nat) : Trail := ⟨i, byL s (trL s (s.hampers.getD i 0))⟩
def Axo (s : Sm) : List Trail := (List.range s.hampers.length).map (Azw s)
def Bxh (t : Trail) : List (Int × Int × Hint) := ((t.hs.zipIdx).filter fun x => x.1.some).map fun x => (t.ham, (x.2 : Int), x.1)
def Az6 (l : List Trail) : List (Int × Int × Hint) := l.flatMap Bxh
theorem Cw1 (c : List Int) (i : Nat) (v : Int) : (c.set i v).length = c.length := List.length_set
theorem Bkp (c : List Int) (d : Dr) (t : Int) : (Akv c d t).length = c.length := by simp [Akv]
theorem Aw6 : ∀ (ds : List Dr) (ts c : List Int), (Ajk ds ts c).length = c.length
 | [], _, c => by cases ‹List Int› <;> rfl
 | _ :: _, [], c => rfl
 | d :: ds, t :: ts, c => by rw [Ajk, Aw6 ds ts, Bkp]
theorem Bz8 (ds : List Dr) (ts : List Int) : ∀ (n : Nat) (c : List Int), (Avz ds ts n c).length = c.length
 | 0, _ => rfl
 | n + 1, c => by
  unfold Avz
  split
  ·rfl
  ·rw [Bz8 ds ts n, Aw6]
theorem Avy (ds : List Dr) (p : Int) (ts : List Int) : (Aq4 ds p ts).length = 6 := by simp [Aq4, Bz8, Cqq]
theorem Awg {c : List Int} {p : Int} (h0 : 0 <= p) (h1 : p < c.length) : c[p.toNat]? = some (gI c p) := by
 unfold gI
 rw [List.getD, List.getElem?_eq_getElem (by omega)]
 rfl
theorem Awh {c : List Int} {p q v : Int} (hp0 : 0 <= p) (hp : p < c.length) (hq : 0 <= q) : gI (c.set p.toNat v) q = if p = q then v else gI c q := by
 unfold gI
 rw [List.getD, List.getElem?_set]
 by_cases h : p = q
 ·subst h
  rw [if_pos rfl, if_pos rfl, if_pos (by omega)]
  rfl
 ·rw [if_neg (by omega), if_neg h]
  rfl
def Edg : List Dr -> List Int -> Int -> Int -> Int -> Prop
 | d :: ds, t :: ts, a, b, n => (n = t /\ ((a = d.a /\ b = d.b) ∨ (a = d.b /\ b = d.a))) ∨ Edg ds ts a b n
 | _, _, _, _, _ => False
inductive Walk (E : Int -> Int -> Int -> Prop) (p : Int) : Int -> Int -> Prop
 | here : Walk E p p 0
 | step {a b n t : Int} : Walk E p a n -> E a b t -> Walk E p b (n + t)
theorem Edg.symm : ∀ {ds : List Dr} {ts : List Int} {a b n : Int}, Edg ds ts a b n -> Edg ds ts b a n
 | d :: ds, t :: ts, a, b, n, h => by
  rcases h with ⟨h, h1 | h1⟩ | h
  ·exact .inl ⟨h, .inr ⟨h1.2, h1.1⟩⟩
  ·exact .inl ⟨h, .inl ⟨h1.2, h1.1⟩⟩
  ·exact .inr h.symm
theorem Edg.ix : ∀ {ds : List Dr} {ts : List Int} {a b n : Int}, Edg ds ts a b n -> ∃ (i : Nat) (d : Dr), ds[i]? = some d /\ ts[i]? = some n /\ ((a = d.a /\ b = d.b) ∨ (a = d.b /\ b = d.a))
 | d :: ds, t :: ts, a, b, n, h => by
  rcases h with ⟨rfl, h⟩ | h
  ·exact ⟨0, d, rfl, rfl, h⟩
  ·obtain ⟨i, d', h1, h2, h3⟩ := h.ix
   exact ⟨i + 1, d', h1, h2, h3⟩
theorem Edg.of : ∀ {ds : List Dr} {ts : List Int} {i : Nat} {d : Dr} {n : Int}, ds[i]? = some d -> ts[i]? = some n -> Edg ds ts d.a d.b n
 | d' :: ds, t :: ts, 0, d, n, h1, h2 => by
  simp at h1 h2
  subst h1 h2
  exact .inl ⟨rfl, .inl ⟨rfl, rfl⟩⟩
 | d' :: ds, t :: ts, i + 1, d, n, h1, h2 => .inr (Edg.of (i := i) h1 h2)
 | [], _, _, _, _, h1, _ => by simp at h1
 | _ :: _, [], _, _, _, _, h2 => by simp at h2
theorem Walk.map {E E' : Int -> Int -> Int -> Prop} (f : Int -> Int) (hE : ∀ a b t, E a b t -> E' (f a) (f b) t) {p q n : Int} (h : Walk E p q n) : Walk E' (f p) (f q) n := by
 induction h with
 | here => exact .here
 | step _ he ih => exact ih.step (hE _ _ _ he)
theorem Walk.ge {E : Int -> Int -> Int -> Prop} {p q n : Int} (h : Walk E p q n) {c : Int -> Int} (hr : ∀ a b t, E a b t -> c b <= c a + t) : c q <= c p + n := by
 induction h with
 | here => omega
 | step _ he ih => have := hr _ _ _ he; omega
def TsOk (ds : List Dr) (ts : List Int) : Prop := ∀ a b n, Edg ds ts a b n -> 1 <= n /\ n <= 4
def Av8 (pl : Int) (ds : List Dr) : Prop := ∀ d ∈ ds, DrOk pl d
theorem Edg.place {pl : Int} {ds : List Dr} (hd : Av8 pl ds) {ts : List Int} {a b n : Int} (h : Edg ds ts a b n) : (0 <= a /\ a < pl) /\ (0 <= b /\ b < pl) := by
 obtain ⟨i, d, h1, _, h3⟩ := h.ix
 have hk := hd d (List.mem_of_getElem? h1)
 have := hk.a0; have := hk.a1; have := hk.b0; have := hk.b1
 rcases h3 with ⟨rfl, rfl⟩ | ⟨rfl, rfl⟩ <;> omega
structure Akf (E : Int -> Int -> Int -> Prop) (pl p : Int) (c : List Int) : Prop where
 len : c.length = 6
 at0 : gI c p = 0
 att : ∀ q, 0 <= q -> q < 6 -> gI c q = 99 ∨ (gI c q < 99 /\ Walk E p q (gI c q))
 pos : ∀ q, 0 <= q -> q < 6 -> 0 <= gI c q
theorem Akf.start (E : Int -> Int -> Int -> Prop) {pl p : Int} (h0 : 0 <= p) (h1 : p < 6) : Akf E pl p (Cqq p) := by
 have hl : ∀ q, 0 <= q -> q < 6 -> gI (List.replicate 6 (99 : Int)) q = 99 := fun q h0 h1 => by
  unfold gI
  rw [List.getD, List.getElem?_replicate, if_pos (by omega)]
  rfl
 have hg : ∀ q, 0 <= q -> q < 6 -> gI (Cqq p) q = if p = q then 0 else 99 := fun q hq0 hq1 => by
  unfold Cqq
  rw [Awh h0 (by simp; omega) hq0, hl q hq0 hq1]
 refine ⟨by simp [Cqq], by rw [hg p h0 h1, if_pos rfl], fun q hq0 hq1 => ?_, fun q hq0 hq1 => ?_⟩
 ·rw [hg q hq0 hq1]
  split
  ·rename_i h; subst h; exact .inr ⟨by omega, .here⟩
  ·exact .inl rfl
 ·rw [hg q hq0 hq1]; split <;> omega
theorem Bzv {pl : Int} {d : Dr} (hd : DrOk pl d) (hp : pl <= 6) {c : List Int} (hl : c.length = 6) (t : Int) {q : Int} (hq0 : 0 <= q) (hq1 : q < 6) :
  gI (Akv c d t) q = if d.b = q then min (gI c d.b) (min (gI c d.a) (gI c d.b + t) + t) else if d.a = q then min (gI c d.a) (gI c d.b + t) else gI c q := by
 have := hd.a0; have := hd.a1; have := hd.b0; have := hd.b1; have hne := hd.ne
 unfold Akv
 have ga : ∀ x, gI (c.set d.a.toNat x) d.a = x := fun x => by rw [Awh hd.a0 (by omega) hd.a0, if_pos rfl]
 have gb : ∀ x, gI (c.set d.a.toNat x) d.b = gI c d.b := fun x => by rw [Awh hd.a0 (by omega) hd.b0, if_neg hne]
 rw [Awh hd.b0 (by rw [Cw1]; omega) hq0, ga, gb]
 split
 ·rfl
 ·rw [Awh hd.a0 (by omega) hq0]
theorem Akf.one {E : Int -> Int -> Int -> Prop} {pl p : Int} {c : List Int} (h : Akf E pl p c) {d : Dr} {t : Int} (hd : DrOk pl d) (hp : pl <= 6) (hE : E d.a d.b t) (hE' : E d.b d.a t) (ht : 1 <= t) (h0 : 0 <= p) (h1 : p < 6) : Akf E pl p (Akv c d t) /\ (∀ q, 0 <= q -> q < 6 -> gI (Akv c d t) q <= gI c q) := by
 have := hd.a0; have := hd.a1; have := hd.b0; have := hd.b1; have hne := hd.ne
 have hg := fun q hq0 hq1 => Bzv hd hp h.len t (q := q) hq0 hq1
 have pa := h.pos d.a hd.a0 (by omega)
 have pb := h.pos d.b hd.b0 (by omega)
 have p0 := h.at0
 have ha : gI c d.a <= 99 := by rcases h.att d.a hd.a0 (by omega) with h | h <;> omega
 have hb : gI c d.b <= 99 := by rcases h.att d.b hd.b0 (by omega) with h | h <;> omega
 have na : min (gI c d.a) (gI c d.b + t) = 99 ∨ (min (gI c d.a) (gI c d.b + t) < 99 /\ Walk E p d.a (min (gI c d.a) (gI c d.b + t))) := by
  by_cases hlt : gI c d.b + t < gI c d.a
  ·rw [show min (gI c d.a) (gI c d.b + t) = gI c d.b + t by omega]
   rcases h.att d.b hd.b0 (by omega) with h | ⟨h, hw⟩
   ·omega
   ·exact .inr ⟨by omega, hw.step hE'⟩
  ·rw [show min (gI c d.a) (gI c d.b + t) = gI c d.a by omega]
   exact h.att d.a hd.a0 (by omega)
 have nb : min (gI c d.b) (min (gI c d.a) (gI c d.b + t) + t) = 99 ∨ (min (gI c d.b) (min (gI c d.a) (gI c d.b + t) + t) < 99 /\ Walk E p d.b (min (gI c d.b) (min (gI c d.a) (gI c d.b + t) + t))) := by
  generalize min (gI c d.a) (gI c d.b + t) = x at *
  by_cases hlt : x + t < gI c d.b
  ·rw [show min (gI c d.b) (x + t) = x + t by omega]
   rcases na with h | ⟨h, hw⟩
   ·omega
   ·exact .inr ⟨by omega, hw.step hE⟩
  ·rw [show min (gI c d.b) (x + t) = gI c d.b by omega]
   exact h.att d.b hd.b0 (by omega)
 refine ⟨⟨by rw [Bkp]; exact h.len, ?_, fun q hq0 hq1 => ?_, fun q hq0 hq1 => ?_⟩, fun q hq0 hq1 => ?_⟩
 ·rw [hg p h0 h1]
  split
  ·rename_i e; subst e; omega
  ·split
   ·rename_i e; subst e; omega
   ·exact p0
 ·rw [hg q hq0 hq1]
  split
  ·rename_i e; subst e; exact nb
  ·split
   ·rename_i e; subst e; exact na
   ·exact h.att q hq0 hq1
 ·rw [hg q hq0 hq1]
  split
  ·omega
  ·split
   ·omega
   ·exact h.pos q hq0 hq1
 ·rw [hg q hq0 hq1]
  split
  ·rename_i e; subst e; omega
  ·split
   ·rename_i e; subst e; omega
   ·omega
theorem Akf.all {E : Int -> Int -> Int -> Prop} {pl p : Int} (hp : pl <= 6) (h0 : 0 <= p) (h1 : p < 6) (hs : ∀ a b t, E a b t -> E b a t) (ht : ∀ a b t, E a b t -> 1 <= t) : ∀ (ds : List Dr) (ts : List Int), Av8 pl ds -> (∀ a b n, Edg ds ts a b n -> E a b n) -> ∀ {c : List Int}, Akf E pl p c ->
  Akf E pl p (Ajk ds ts c) /\ (∀ q, 0 <= q -> q < 6 -> gI (Ajk ds ts c) q <= gI c q)
 | [], _, _, _, c, h => ⟨by unfold Ajk; exact h, fun q _ _ => by unfold Ajk; exact Int.le_refl _⟩
 | _ :: _, [], _, _, c, h => ⟨h, fun q _ _ => Int.le_refl _⟩
 | d :: ds, t :: ts, hd, hE, c, h => by
  have he : E d.a d.b t := hE _ _ _ (.inl ⟨rfl, .inl ⟨rfl, rfl⟩⟩)
  obtain ⟨g1, g2⟩ := h.one (hd d List.mem_cons_self) hp he (hs _ _ _ he) (ht _ _ _ he) h0 h1
  obtain ⟨g3, g4⟩ := Akf.all hp h0 h1 hs ht ds ts (fun x hx => hd x (List.mem_cons_of_mem _ hx)) (fun a b n hn => hE a b n (.inr hn)) g1
  exact ⟨g3, fun q a b => Int.le_trans (g4 q a b) (g2 q a b)⟩
theorem Bkq {pl p : Int} {E : Int -> Int -> Int -> Prop} (hp : pl <= 6) (h0 : 0 <= p) (h1 : p < 6) (hs : ∀ a b t, E a b t -> E b a t) (ht : ∀ a b t, E a b t -> 1 <= t) : ∀ (ds : List Dr) (ts : List Int), Av8 pl ds -> (∀ a b n, Edg ds ts a b n -> E a b n) -> ∀ {c : List Int}, Akf E pl p c ->
  (∀ q, 0 <= q -> q < 6 -> gI (Ajk ds ts c) q = gI c q) -> ∀ a b n, Edg ds ts a b n -> gI c b <= gI c a + n
 | [], _, _, _, c, _, _, a, b, n, hh => by simp [Edg] at hh
 | _ :: _, [], _, _, c, _, _, a, b, n, hh => by simp [Edg] at hh
 | d :: ds, t :: ts, hd, hE, c, h, hf, a, b, n, hn => by
  have hdk := hd d List.mem_cons_self
  have := hdk.a0; have := hdk.a1; have := hdk.b0; have := hdk.b1; have hne := hdk.ne
  have he : E d.a d.b t := hE _ _ _ (.inl ⟨rfl, .inl ⟨rfl, rfl⟩⟩)
  obtain ⟨g1, g2⟩ := h.one hdk hp he (hs _ _ _ he) (ht _ _ _ he) h0 h1
  obtain ⟨g3, g4⟩ := Akf.all hp h0 h1 hs ht ds ts (fun x hx => hd x (List.mem_cons_of_mem _ hx)) (fun a b n hn => hE a b n (.inr hn)) g1
  have heq : ∀ q, 0 <= q -> q < 6 -> gI (Akv c d t) q = gI c q := fun q hq0 hq1 => by
   have e1 : gI (Ajk ds ts (Akv c d t)) q = gI c q := hf q hq0 hq1
   have e2 := g4 q hq0 hq1
   have e3 := g2 q hq0 hq1
   omega
  have ea := heq d.a hdk.a0 (by omega)
  have eb := heq d.b hdk.b0 (by omega)
  rw [Bzv hdk hp h.len t hdk.a0 (by omega), if_neg (fun e => hne e.symm), if_pos rfl] at ea
  rw [Bzv hdk hp h.len t hdk.b0 (by omega), if_pos rfl] at eb
  rcases hn with ⟨rfl, ⟨rfl, rfl⟩ | ⟨rfl, rfl⟩⟩ | hn
  ·omega
  ·omega
  ·have := Bkq hp h0 h1 hs ht ds ts (fun x hx => hd x (List.mem_cons_of_mem _ hx)) (fun a b n hn => hE a b n (.inr hn)) g1 (fun q hq0 hq1 => by
    have e1 : gI (Ajk ds ts (Akv c d t)) q = gI c q := hf q hq0 hq1
    rw [e1, heq q hq0 hq1]) a b n hn
   obtain ⟨ha, hb⟩ := hn.place (fun x hx => hd x (List.mem_cons_of_mem _ hx))
   rw [heq a ha.1 (by omega), heq b hb.1 (by omega)] at this
   exact this
def sum6 (c : List Int) : Int := gI c 0 + gI c 1 + gI c 2 + gI c 3 + gI c 4 + gI c 5
theorem Dkf {c c' : List Int} (h : c.length = 6) (h' : c'.length = 6) (he : ∀ q, 0 <= q -> q < 6 -> gI c q = gI c' q) : c = c' := by
 apply List.ext_getElem?
 intro i
 by_cases hi : i < 6
 ·have := he i (by omega) (by omega)
  have g1 := Awg (c := c) (p := (i : Int)) (by omega) (by omega)
  have g2 := Awg (c := c') (p := (i : Int)) (by omega) (by omega)
  simp only [Int.toNat_natCast] at g1 g2
  rw [g1, g2, this]
 ·rw [List.getElem?_eq_none (by omega), List.getElem?_eq_none (by omega)]
theorem Cyb {c c' : List Int} (h : c.length = 6) (h' : c'.length = 6) (hle : ∀ q, 0 <= q -> q < 6 -> gI c' q <= gI c q) (hne : c' ≠ c) : sum6 c' < sum6 c := by
 by_cases hs : sum6 c' < sum6 c
 ·exact hs
 ·refine absurd (Dkf h' h fun q hq0 hq1 => ?_) hne
  have a0 := hle 0 (by omega) (by omega)
  have a1 := hle 1 (by omega) (by omega)
  have a2 := hle 2 (by omega) (by omega)
  have a3 := hle 3 (by omega) (by omega)
  have a4 := hle 4 (by omega) (by omega)
  have a5 := hle 5 (by omega) (by omega)
  unfold sum6 at hs
  rcases (by omega : q = 0 ∨ q = 1 ∨ q = 2 ∨ q = 3 ∨ q = 4 ∨ q = 5) with rfl | rfl | rfl | rfl | rfl | rfl <;> omega
structure Ayg (E : Int -> Int -> Int -> Prop) (p : Int) (c : List Int) : Prop where
 len : c.length = 6
 at0 : gI c p = 0
 att : ∀ q, 0 <= q -> q < 6 -> gI c q = 99 ∨ (gI c q < 99 /\ Walk E p q (gI c q))
 pos : ∀ q, 0 <= q -> q < 6 -> 0 <= gI c q
 rel : ∀ a b n, E a b n -> gI c b <= gI c a + n
theorem Bkt {pl p : Int} {ds : List Dr} {ts : List Int} (hp : pl <= 6) (h0 : 0 <= p) (h1 : p < 6) (hd : Av8 pl ds) (ht : TsOk ds ts) : ∀ (n : Nat) (c : List Int), Akf (Edg ds ts) pl p c -> sum6 c < n -> Ayg (Edg ds ts) p (Avz ds ts n c)
 | 0, c, h, hs => by
  have p0 := h.pos 0 (by omega) (by omega)
  have p1 := h.pos 1 (by omega) (by omega)
  have p2 := h.pos 2 (by omega) (by omega)
  have p3 := h.pos 3 (by omega) (by omega)
  have p4 := h.pos 4 (by omega) (by omega)
  have p5 := h.pos 5 (by omega) (by omega)
  unfold sum6 at hs
  omega
 | n + 1, c, h, hs => by
  obtain ⟨g1, g2⟩ := Akf.all hp h0 h1 (fun _ _ _ h => h.symm) (fun _ _ _ h => (ht _ _ _ h).1) ds ts hd (fun _ _ _ h => h) h
  unfold Avz
  split
  ·rename_i he
   exact ⟨h.len, h.at0, h.att, h.pos, Bkq hp h0 h1 (fun _ _ _ h => h.symm) (fun _ _ _ h => (ht _ _ _ h).1) ds ts hd (fun _ _ _ h => h) h (fun q _ _ => by rw [he])⟩
  ·rename_i hne
   have := Cyb h.len g1.len g2 hne
   exact Bkt hp h0 h1 hd ht n _ g1 (by omega)
theorem Bks {pl p : Int} {ds : List Dr} {ts : List Int} (hp : pl <= 6) (h0 : 0 <= p) (h1 : p < 6) (hd : Av8 pl ds) (ht : TsOk ds ts) : Ayg (Edg ds ts) p (Aq4 ds p ts) := by
 refine Bkt hp h0 h1 hd ht 600 _ (Akf.start _ h0 h1) ?_
 have h := Akf.start (Edg ds ts) (pl := pl) h0 h1
 have hle : ∀ q, 0 <= q -> q < 6 -> gI (Cqq p) q <= 99 := fun q a b => by rcases h.att q a b with h | h <;> omega
 have p0 := hle 0 (by omega) (by omega)
 have p1 := hle 1 (by omega) (by omega)
 have p2 := hle 2 (by omega) (by omega)
 have p3 := hle 3 (by omega) (by omega)
 have p4 := hle 4 (by omega) (by omega)
 have p5 := hle 5 (by omega) (by omega)
 unfold sum6
 omega
def b01 (x v : Int) : Int := if x < v then 1 else 0
theorem Bj7 (x : Int) {u v : Int} (h : u <= v) : b01 x u <= b01 x v := by
 unfold b01; split <;> split <;> omega
theorem Dkx {x v : Int} (h : x < v) : b01 x x + 1 <= b01 x v := by
 unfold b01; rw [if_neg (by omega), if_pos h]; omega
theorem Bj6 (x v : Int) : 0 <= b01 x v /\ b01 x v <= 1 := by
 unfold b01; split <;> omega
def below (c : List Int) (v : Int) : Int := b01 (gI c 0) v + b01 (gI c 1) v + b01 (gI c 2) v + b01 (gI c 3) v + b01 (gI c 4) v + b01 (gI c 5) v
theorem Cx4 (c : List Int) (v : Int) : 0 <= below c v /\ below c v <= 6 := by
 have h0 := Bj6 (gI c 0) v
 have h1 := Bj6 (gI c 1) v
 have h2 := Bj6 (gI c 2) v
 have h3 := Bj6 (gI c 3) v
 have h4 := Bj6 (gI c 4) v
 have h5 := Bj6 (gI c 5) v
 unfold below
 omega
theorem Cy1 {c : List Int} {a : Int} {v : Int} (h0 : 0 <= a) (h1 : a < 6) (h : gI c a < v) : below c (gI c a) + 1 <= below c v := by
 have g0 := Bj7 (gI c 0) (Int.le_of_lt h)
 have g1 := Bj7 (gI c 1) (Int.le_of_lt h)
 have g2 := Bj7 (gI c 2) (Int.le_of_lt h)
 have g3 := Bj7 (gI c 3) (Int.le_of_lt h)
 have g4 := Bj7 (gI c 4) (Int.le_of_lt h)
 have g5 := Bj7 (gI c 5) (Int.le_of_lt h)
 have hx := Dkx h
 unfold below
 rcases (by omega : a = 0 ∨ a = 1 ∨ a = 2 ∨ a = 3 ∨ a = 4 ∨ a = 5) with rfl | rfl | rfl | rfl | rfl | rfl <;> omega
theorem Ayg.most {pl p : Int} {ds : List Dr} {ts : List Int} {c : List Int} (h : Ayg (Edg ds ts) p c) (hp : pl <= 6) (hd : Av8 pl ds) (ht : TsOk ds ts) (hp0 : 0 <= p) (hp1 : p < 6) : ∀ (n : Nat) (q : Int), 0 <= q -> q < 6 -> gI c q < 99 -> gI c q <= n -> gI c q <= 4 * below c (gI c q)
 | n, q, h0, h1, h2, h3 => by
  rcases h.att q h0 h1 with h4 | ⟨_, hw⟩
  ·omega
  ·generalize hg : gI c q = v at hw
   have hb := (Cx4 c v).1
   cases hw with
   | here => omega
   | @step a _ m t hwa he =>
    obtain ⟨ha, _⟩ := he.place hd
    obtain ⟨ht1, ht4⟩ := ht _ _ _ he
    have r1 := h.rel _ _ _ he
    have r2 := hwa.ge h.rel
    rw [h.at0] at r2
    have r3 : gI c a = m := by omega
    have r4 := h.pos a ha.1 (by omega)
    match n, h3 with
    | 0, h3 => omega
    | n + 1, h3 =>
     have ih := Ayg.most h hp hd ht hp0 hp1 n a ha.1 (by omega) (by omega) (by omega)
     have := Cy1 (c := c) (v := m + t) ha.1 (by omega) (by omega)
     omega
theorem Ayg.small {pl p : Int} {ds : List Dr} {ts : List Int} {c : List Int} (h : Ayg (Edg ds ts) p c) (hp : pl <= 6) (hd : Av8 pl ds) (ht : TsOk ds ts) (hp0 : 0 <= p) (hp1 : p < 6) {q : Int} (h0 : 0 <= q) (h1 : q < 6) : gI c q = 99 ∨ gI c q <= 24 := by
 rcases h.att q h0 h1 with h2 | ⟨h2, _⟩
 ·exact .inl h2
 ·have := h.most hp hd ht hp0 hp1 (gI c q).toNat q h0 h1 h2 (by have := h.pos q h0 h1; omega)
  have := (Cx4 c (gI c q)).2
  right
  omega
theorem Ayg.walk {pl p : Int} {ds : List Dr} {ts : List Int} {c : List Int} (h : Ayg (Edg ds ts) p c) (hp : pl <= 6) (hd : Av8 pl ds) (ht : TsOk ds ts) (hp0 : 0 <= p) (hp1 : p < 6) {q n : Int} (hw : Walk (Edg ds ts) p q n) : 0 <= q /\ q < 6 /\ gI c q <= 24 /\ gI c q <= n := by
 refine ⟨?_, ?_, ?_, by have := hw.ge h.rel; rw [h.at0] at this; omega⟩
 ·cases hw with
  | here => exact hp0
  | step _ he => exact (he.place hd).2.1
 ·cases hw with
  | here => exact hp1
  | step _ he => have := (he.place hd).2.2; omega
 ·induction hw with
  | here => rw [h.at0]; omega
  | @step a b n t _ he ih =>
   have r := h.rel _ _ _ he
   have := (ht _ _ _ he).2
   obtain ⟨_, hb⟩ := he.place hd
   rcases h.small hp hd ht hp0 hp1 hb.1 (by omega) with h2 | h2 <;> omega
end Go.Proofs.YtnfnaehonkbknaaGreatDoor
end
