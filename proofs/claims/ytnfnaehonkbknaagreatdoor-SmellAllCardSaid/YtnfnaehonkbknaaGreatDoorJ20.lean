/- Texts SmU SmX SmY SmZ. -/
import Derived.Test.YtnfnaehonkbknaaGreatDoorJ19
set_option linter.defProp false
set_option linter.unusedSimpArgs false
set_option linter.unusedVariables false
set_option maxRecDepth 100000
set_option maxHeartbeats 2000000
section
namespace Go.Proofs.YtnfnaehonkbknaaGreatDoor
open Go Go.X Go.Proofs.Tryz
def Aj7 := aN @Exu (aN (fun H => Aqt (H := H) (P := Tryz.prog) (h := zeroValue22)) (aN @Eq4 (aN @Ayr (aN @Ex2 (aN @Ex3 (aN @Bq1 (aN @Eqy @Eqv)))))))
def Ax8 := aN @Eqy (aN @Dy7 (aN @Eqw (aN @Dyw (aN @Ex0 (aN @Ex2 (aN @Ex3 (aN @Eqv (aN @Eqo (aN (fun H => Cyl (H := H) underlying91 sizeOf3) (fun H => Byu (H := H) underlying91 sizeOf3))))))))))
theorem Aki {H : Hp} {b x : Nat} {o : Obj} (h : (Hp.set H b o) x = none) : x ≠ b /\ H x = none := by
 unfold Hp.set at h
 by_cases e : x = b
 ·rw [if_pos e] at h; cases h
 ·rw [if_neg e] at h; exact ⟨e, h⟩
theorem Bjc {P : Program} {H : Hp} {fn : Func} {t u v x : Tmp} {ty1 ty2 ty3 : TypeId} (h : fn.results = #[.cell t ty1, .cell u ty2, .cell v ty3, .tmp x]) {n : Nat} {e : Nat -> Value} {ds : List Deferred} (ht : t < n) (hu' : u < n) (hv : v < n) (hx : x < n) {b0 b1 b2 : Nat}
  (h0 : e t = .pointer (some ⟨b0, 0, none⟩)) (h1 : e u = .pointer (some ⟨b1, 0, none⟩)) (h2 : e v = .pointer (some ⟨b2, 0, none⟩)) {d1 d2 d3 : TypeDesc} (hu1 : P.underlying ty1 = some d1) (hd1 : aggB d1 = false) (hu2 : P.underlying ty2 = some d2) (hd2 : aggB d2 = false) (hu3 : P.underlying ty3 = some d3) (hd3 : aggB d3 = false)
  {x0 x1 x2 : Value} (w0 : H.cell ⟨b0, 0, none⟩ = some x0) (w1 : H.cell ⟨b1, 0, none⟩ = some x1) (w2 : H.cell ⟨b2, 0, none⟩ = some x2) (K : Value -> Hp -> Prop) (E : Value -> Hp -> Prop) (hK : K (.tuple #[x0, x1, x2, e x]) H) :
  wpS P (results fn (act n e ds).tmps) H K E := by
 simp only [results, h, act_get? ht, act_get? hu', act_get? hv, act_get? hx, h0, h1, h2]
 simp [-bind_pure_comp, results, h, act_get? ht, act_get? hu', act_get? hv, act_get? hx, h0, h1, h2, asAddr, Aqa, Aqe, Cw1 hu1 hd1, Cw1 hu2 hd2, Cw1 hu3 hd3]
 exact ⟨_, w0, _, w1, _, w2, hK⟩
theorem Cq5 {x : Hint} (h : Axq x) {n : Nat} (hn : n <= 6) : ((Axu x).drop 18).take n = ints (x.first.take n) := by
 obtain ⟨b0, b1, b2, b3, b4, b5, f0, f1, f2, f3, f4, f5, s, rfl⟩ := Aw4 h
 have : (Axu ⟨[b0, b1, b2, b3, b4, b5], [f0, f1, f2, f3, f4, f5], s⟩).drop 18 = ints [f0, f1, f2, f3, f4, f5] ++ [.bool s] := rfl
 rw [this, List.take_append_of_le_length (by simp [ints]; omega)]
 simp [ints, List.map_take]
theorem Cj8 (main : Md) (H : Hp) (b0 b1 b2 sb : Nat) (ham hour z : Int) (x : Hint) (hx : Axq x) (hz : 0 <= z) (v0 : H b0 = some (true, .cells #[.int .i64 z] 3 (0, 0))) :
  FnX Tryz.prog main 58 #[.int .i64 ham, .int .i64 hour, .agg (Axu x).toArray, .pointer (some ⟨b0, 0, none⟩), .pointer (some ⟨sb, 0, none⟩), .pointer (some ⟨b1, 0, none⟩), .pointer (some ⟨b2, 0, none⟩)] H fun e H' => e = .returned (.tuple #[]) /\ H.le H' := by
 have hl := Ax0 hx
 have hex := Ak7 hx
 generalize Axu x = HC at *
 refine Aql func58 rfl ntmps58 (by simp) ?_
 (refine @unH _ (zA Ax8 ?_); (try clear hK K); intro K hK hc)
 (intro b hb; generalize hG : Hp.set _ b _ = H1; have lH1 := Aqc hG hb; have vb := Aqb hG; clear hG)
 have vo1 := lH1 _ _ v0
 (refine @unH _ (zU Ax8 ?_); (try clear hK K); intro K hK hc)
 (refine @unH _ ?_; refine zD results58 ?_)
 exact ⟨rfl, lH1⟩
theorem Cwm (main : Md) (H : Hp) (b0 b1 b2 sb n dcap : Nat) (da : Option Addr) (pl : Int) (hv nv : Value) (ham hour z y : Int) (w : Value) (x : Hint) (hx : Axq x) (hz : z < 0) (hn : n <= 6) (v0 : H b0 = some (true, .cells #[.int .i64 z] 3 (0, 0)))
  (v1 : H b1 = some (true, .cells #[.int .i64 y] 3 (0, 0))) (v2 : H b2 = some (true, .cells #[w] 22 (0, 0))) (vs : H sb = some (true, smO pl (.slice da n dcap) hv nv)) (n01 : b0 ≠ b1) :
  FnX Tryz.prog main 58 #[.int .i64 ham, .int .i64 hour, .agg (Axu x).toArray, .pointer (some ⟨b0, 0, none⟩), .pointer (some ⟨sb, 0, none⟩), .pointer (some ⟨b1, 0, none⟩), .pointer (some ⟨b2, 0, none⟩)] H fun e H' => e = .returned (.tuple #[]) /\ H' b0 = some (true, .cells #[.int .i64 ham] 3 (0, 0)) /\ H' b1 = some (true, .cells #[.int .i64 hour] 3 (0, 0)) /\ (∃ w', H' b2 = some (true, .cells #[w'] 22 (0, 0)) /\ SlI H' w' (x.first.take n)) /\ ∀ b x, b ≠ b0 -> b ≠ b1 -> b ≠ b2 -> H b = some x -> H' b = some x := by
 have hl := Ax0 hx
 have hex := Ak7 hx
 have htk := Cq5 hx hn
 have hone : ∀ v ∈ (Axu x).drop 18, one v = true := fun v hv => Bz0 x v (List.mem_of_mem_drop hv)
 generalize Axu x = HC at *
 have n02 : b0 ≠ b2 := fun e => by rw [e, v2] at v0; simp at v0
 have n12 : b1 ≠ b2 := fun e => by rw [e, v2] at v1; simp at v1
 have ns0 : sb ≠ b0 := fun e => by rw [e, v0] at vs; simp at vs
 have ns1 : sb ≠ b1 := fun e => by rw [e, v1] at vs; simp at vs
 have n10 := Ne.symm n01
 have n20 := Ne.symm n02
 have n21 := Ne.symm n12
 have ns2 : sb ≠ b2 := fun e => by rw [e, v2] at vs; simp at vs
 replace htk : Aqk _ := htk
 replace hone : Aqk _ := hone
 refine Aql func58 rfl ntmps58 (by simp) ?_
 (refine @unH _ (zA Ax8 ?_); (try clear hK K); intro K hK hc)
 (intro xb hxb; generalize hG : Hp.set _ xb _ = H1; have lH1 := Aqc hG hxb; have vxb := Aqb hG; clear hG)
 have u0 := lH1 _ _ v0
 have u1 := lH1 _ _ v1
 have u2 := lH1 _ _ v2
 have us := lH1 _ _ vs
 have nx0 := Aqq v0 hxb
 have nx1 := Aqq v1 hxb
 have nx2 := Aqq v2 hxb
 have nxs := Aqq vs hxb
 clear v0 v1 v2 vs hxb
 (refine @unH _ (zU Ax8 ?_); (try clear hK K); intro K hK hc)
 refine Az7 (Q := only fun a' H' => ∃ e' nb, a' = act 22 e' [] /\ e' 6 = .pointer (some ⟨b2, 0, none⟩) /\ e' 9 = .pointer (some ⟨xb, 0, none⟩) /\ H1 nb = none /\ H' b0 = some (true, .cells #[.int .i64 ham] 3 (0, 0)) /\ H' b1 = some (true, .cells #[.int .i64 hour] 3 (0, 0)) /\ H' b2 = some (true, .cells #[.slice (some ⟨nb, 0, none⟩) n n] 22 (0, 0)) /\ H' nb = some (true, .cells (Array.replicate n (.int .i64 0)) 3 (0, 0)) /\ ∀ c z, c ≠ b0 -> c ≠ b1 -> c ≠ b2 -> H1 c = some z -> H' c = some z) ?_ ?_
 ·refine Axn (fun HX => HX sb = some (true, smO pl (.slice da n dcap) hv nv)) [8] (.free 0 (.free 1 (.free 2 (.take 3 (.free 4 (.two 5 (.one 6 (.one 7 (.one 8 .nil))) 6 (.two 5 (.one 7 (.one 8 .nil)) 7 (.one 5 (.one 8 .nil))))))))) (by kernel_rfl) (by kernel_rfl) (by decide) (by kernel_rfl) ?_; intro K hK
  (refine @unH _ ?_; refine zI Ax8 ?_)
  (refine @unH _ ?_; refine zI Ax8 ?_)
  (refine @unH _ ?_; refine zI Ax8 ?_)
  (refine @unH _ ?_; refine zJ Ax8 ?_)
  (refine @unH _ ?_; refine zI Ax8 ?_)
  refine Awn ?_ ?_
  ·(refine @unH _ ?_; refine zX Ax8 ?_)
   intro nb hnb
   have m0 := Aqq u0 hnb
   have m1 := Aqq u1 hnb
   have m2 := Aqq u2 hnb
   have ms := Aqq us hnb
   refine ⟨.inr (fun _ => by simp only [ms, if_false]), Aqv ?_⟩
   (refine @unH _ ?_; refine zX Ax8 ?_)
   refine ⟨.inr (fun _ => by first | trivial | simp only [ms, if_false]), Aqv ?_⟩
   (refine @unH _ ?_; refine zX Ax8 ?_)
   refine ⟨.inr (fun _ => by first | trivial | simp only [ms, if_false]), Aqv ?_⟩
   (refine @unH _ ?_; refine zX Ax8 ?_)
   refine ⟨.inl (by decide), Axr (hK _ _ ?_)⟩
   exact ⟨_, nb, rfl, rfl, rfl, hnb, by simp [Hp.set, n01, n02, n12, n10, n20, n21, m0, m1, m2, Ne.symm m0, Ne.symm m1, Ne.symm m2], by simp [Hp.set, n01, n02, n12, n10, n20, n21, m0, m1, m2, Ne.symm m0, Ne.symm m1, Ne.symm m2], by simp [Hp.set, n01, n02, n12, n10, n20, n21, m0, m1, m2, Ne.symm m0, Ne.symm m1, Ne.symm m2], by simp [Hp.set, n01, n02, n12, n10, n20, n21, m0, m1, m2, Ne.symm m0, Ne.symm m1, Ne.symm m2], fun c z c0 c1 c2 hz => by
    have hcn : c ≠ nb := fun e => by rw [e, hnb] at hz; cases hz
    simp [Hp.set, c0, c1, c2, hcn, hz]⟩
  ·(refine @unH _ ?_; refine zX Ax8 ?_)
   refine ⟨.inr (fun _ => trivial), Awn ?_ ?_⟩
   ·(refine @unH _ ?_; refine zX Ax8 ?_)
    intro nb hnb
    replace hnb : (Hp.set H1 b0 _) nb = none := hnb
    replace hnb := (Aki hnb).2
    have m0 := Aqq u0 hnb
    have m1 := Aqq u1 hnb
    have m2 := Aqq u2 hnb
    have ms := Aqq us hnb
    refine ⟨.inr (fun _ => by simp only [ms, if_false]), Aqv ?_⟩
    (refine @unH _ ?_; refine zX Ax8 ?_)
    refine ⟨.inr (fun _ => by first | trivial | simp only [ms, if_false]), Aqv ?_⟩
    (refine @unH _ ?_; refine zX Ax8 ?_)
    refine ⟨.inl (by decide), Axr (hK _ _ ?_)⟩
    exact ⟨_, nb, rfl, rfl, rfl, hnb, by simp [Hp.set, n01, n02, n12, n10, n20, n21, m0, m1, m2, Ne.symm m0, Ne.symm m1, Ne.symm m2], by simp [Hp.set, n01, n02, n12, n10, n20, n21, m0, m1, m2, Ne.symm m0, Ne.symm m1, Ne.symm m2], by simp [Hp.set, n01, n02, n12, n10, n20, n21, m0, m1, m2, Ne.symm m0, Ne.symm m1, Ne.symm m2], by simp [Hp.set, n01, n02, n12, n10, n20, n21, m0, m1, m2, Ne.symm m0, Ne.symm m1, Ne.symm m2], fun c z c0 c1 c2 hz => by
     have hcn : c ≠ nb := fun e => by rw [e, hnb] at hz; cases hz
     simp [Hp.set, c0, c1, c2, hcn, hz]⟩
   ·(refine @unH _ ?_; refine zX Ax8 ?_)
    refine ⟨.inr (fun _ => trivial), Aqv ?_⟩
    (refine @unH _ ?_; refine zX Ax8 ?_)
    intro nb hnb
    replace hnb : (Hp.set (Hp.set H1 b0 _) b1 _) nb = none := hnb
    replace hnb := (Aki (Aki hnb).2).2
    have m0 := Aqq u0 hnb
    have m1 := Aqq u1 hnb
    have m2 := Aqq u2 hnb
    have ms := Aqq us hnb
    refine ⟨.inr (fun _ => by simp only [ms, if_false]), Aqv ?_⟩
    (refine @unH _ ?_; refine zX Ax8 ?_)
    refine ⟨.inl (by decide), Axr (hK _ _ ?_)⟩
    exact ⟨_, nb, rfl, rfl, rfl, hnb, by simp [Hp.set, n01, n02, n12, n10, n20, n21, m0, m1, m2, Ne.symm m0, Ne.symm m1, Ne.symm m2], by simp [Hp.set, n01, n02, n12, n10, n20, n21, m0, m1, m2, Ne.symm m0, Ne.symm m1, Ne.symm m2], by simp [Hp.set, n01, n02, n12, n10, n20, n21, m0, m1, m2, Ne.symm m0, Ne.symm m1, Ne.symm m2], by simp [Hp.set, n01, n02, n12, n10, n20, n21, m0, m1, m2, Ne.symm m0, Ne.symm m1, Ne.symm m2], fun c z c0 c1 c2 hz => by
     have hcn : c ≠ nb := fun e => by rw [e, hnb] at hz; cases hz
     simp [Hp.set, c0, c1, c2, hcn, hz]⟩
 ·intro e a' H' q
  cases e with
  | normal =>
   obtain ⟨e', nb, rfl, e6, e9, hnb, w0, w1, w2, wn, hfr⟩ := q
   have wx := hfr _ _ (Ne.symm nx0) (Ne.symm nx1) (Ne.symm nx2) vxb
   show wpX _ _ _ _ _ _ _
   (refine Akm 3 [(true, 0), (true, 1), (true, 2), (false, 3)] (by kernel_rfl) (by kernel_rfl) (by simp) (by kernel_rfl) ?_; intro K hK; (iterate 3 (refine @unH _ ?_; refine z3 Ax8 ?_)); refine Bja ?_; (refine @unH _ ?_; refine zX Ax8 ?_); try (refine hK _ _ ?_; clear hK K; (try refine @unH _ (zQ ?_))))
   have hmin : min 6 n = n := by omega
   have wn' : H' nb = some (true, .cells (ints (List.replicate n 0)).toArray 3 (0, 0)) := by
    rw [wn, ints, List.map_replicate, List.toArray_replicate]
   have htk2 : (HC.drop 18).take (min 6 n) = ints (x.first.take n) := by rw [hmin]; exact htk
   have hrl : (ints (List.replicate n 0)).length = n := by rw [Aqz, List.length_replicate]
   refine Cqu underlying22 sizeOf3 _ _ nb 0 n n xb 18 6 6 wn' wx (by omega) (by omega) (fun v hv => (show ∀ v ∈ HC.drop 18, one v = true from hone) v (List.mem_of_mem_take hv)) _ _ ?_
   have hfl : (x.first.take n).length = n := by rw [List.length_take, hx.f]; omega
   rw [htk2, Bqp (by rw [Aqz, hrl, hfl])]
   have q0 : nb ≠ b0 := fun e => by rw [e, u0] at hnb; cases hnb
   have q1 : nb ≠ b1 := fun e => by rw [e, u1] at hnb; cases hnb
   have q2 : nb ≠ b2 := fun e => by rw [e, u2] at hnb; cases hnb
   have hh0 : H nb = none := Hp.le_none lH1 hnb
   generalize hG : Hp.set H' nb _ = H4
   have z0 := Aqi hG w0 (Ne.symm q0)
   have z1 := Aqi hG w1 (Ne.symm q1)
   have z2 := Aqi hG w2 (Ne.symm q2)
   have zn := Aqb hG
   have hf4 : ∀ c z, c ≠ b0 -> c ≠ b1 -> c ≠ b2 -> H c = some z -> H4 c = some z := fun c z c0 c1 c2 hz => Aqi hG (hfr c z c0 c1 c2 (lH1 _ _ hz)) (fun e => by rw [e, hh0] at hz; cases hz)
   clear hG wn wn' w0 w1 w2 wx hfr
   (refine @unH _ ?_; refine zX Ax8 ?_)
   refine hK _ _ ?_
   clear hK K
   (refine @unH _ ?_; refine zD results58 ?_)
   refine ⟨rfl, z0, z1, ⟨_, z2, ⟨some ⟨nb, 0, none⟩, n, by rw [hfl], by rw [hfl]; exact Nat.le_refl _, fun i y hy => ⟨nb, 0, true, _, _, rfl, zn, ?_⟩⟩⟩, hf4⟩
   simp only [Nat.zero_add, List.getElem?_toArray]
   unfold ints
   rw [List.getElem?_map, hy]
   rfl
  | _ => exact q.elim
def FstT (n b0 b1 b2 : Nat) (H2 : Hp) (L : List (Int × Int × Hint)) (H' : Hp) : Prop :=
 (∃ z y w, H' b0 = some (true, .cells #[.int .i64 z] 3 (0, 0)) /\ H' b1 = some (true, .cells #[.int .i64 y] 3 (0, 0)) /\ H' b2 = some (true, .cells #[w] 22 (0, 0)) /\
  match L with
  | [] => z = -1
  | x :: _ => z = x.1 /\ 0 <= z /\ y = x.2.1 /\ SlI H' w (x.2.2.first.take n)) /\
 ∀ b x, b ≠ b0 -> b ≠ b1 -> b ≠ b2 -> H2 b = some x -> H' b = some x
theorem Byb (main : Md) (H2 : Hp) (b0 b1 b2 sb n dcap : Nat) (da : Option Addr) (pl : Int) (hv nv : Value) (hn : n <= 6) (vs : H2 sb = some (true, smO pl (.slice da n dcap) hv nv)) (n01 : b0 ≠ b1) (ns0 : sb ≠ b0) (ns1 : sb ≠ b1) (ns2 : sb ≠ b2) :
  HCl Tryz.prog main (.func (.func 58) #[] #[.pointer (some ⟨b0, 0, none⟩), .pointer (some ⟨sb, 0, none⟩), .pointer (some ⟨b1, 0, none⟩), .pointer (some ⟨b2, 0, none⟩)]) (fun ham _ _ => 0 <= ham) (fun b => b = b0 ∨ b = b1 ∨ b = b2) (FstT n b0 b1 b2 H2) := by
 refine ⟨?_, ?_, ?_⟩
 ·rintro L H H' ⟨⟨z, y, w, h0, h1, h2, h3⟩, h4⟩ hl
  refine ⟨⟨z, y, w, hl _ _ h0, hl _ _ h1, hl _ _ h2, ?_⟩, fun b x e0 e1 e2 hx => hl _ _ (h4 b x e0 e1 e2 hx)⟩
  cases L with
  | nil => exact h3
  | cons x L => exact ⟨h3.1, h3.2.1, h3.2.2.1, h3.2.2.2.le hl⟩
 ·rintro L H b ⟨⟨z, y, w, h0, h1, h2, h3⟩, h4⟩ (rfl | rfl | rfl)
  ·rw [h0]; simp
  ·rw [h1]; simp
  ·rw [h2]; simp
 ·rintro L H ham hour x ⟨⟨z, y, w, h0, h1, h2, h3⟩, h4⟩ hxo hA
  cases L with
  | nil =>
   refine Ajp.fn (fun _ _ => Cvz _) ((Cwm main H b0 b1 b2 sb n dcap da pl hv nv ham hour z y w x hxo (by rw [show z = -1 from h3]; decide) hn h0 h1 h2 (h4 _ _ ns0 ns1 ns2 vs) n01).mono ?_)
   rintro _ H' ⟨rfl, g0, g1, ⟨w', g2, g3⟩, g4⟩
   exact ⟨rfl, ⟨⟨ham, hour, w', g0, g1, g2, rfl, hA, rfl, g3⟩, fun b x e0 e1 e2 hx => g4 b x e0 e1 e2 (h4 b x e0 e1 e2 hx)⟩, fun b x hb hx => g4 b x (fun e => hb (.inl e)) (fun e => hb (.inr (.inl e))) (fun e => hb (.inr (.inr e))) hx⟩
  | cons x0 L =>
   refine Ajp.fn (fun _ _ => Cvz _) ((Cj8 main H b0 b1 b2 sb ham hour z x hxo h3.2.1 h0).mono ?_)
   rintro _ H' ⟨rfl, hl⟩
   exact ⟨rfl, ⟨⟨z, y, w, hl _ _ h0, hl _ _ h1, hl _ _ h2, h3.1, h3.2.1, h3.2.2.1, h3.2.2.2.le hl⟩, fun b x e0 e1 e2 hx => hl _ _ (h4 b x e0 e1 e2 hx)⟩, fun b x _ hx => hl _ _ hx⟩
def fstE (s : Sm) : Int × Int × List Int × Int := match susp s with
 | [] => (0, 0, [], 11)
 | x :: _ => (x.1, x.2.1, x.2.2.first.take s.doors.length, 0)
theorem Cxl (H : Hp) (s : Sm) (dv hv nv : Value) (hs : SmIn H dv hv nv s) (ok : SmOk s) :
  FnX Tryz.prog (.wg Tryz.prog) 22 #[smV s.places dv hv nv] H fun e H' => ∃ w, e = .returned (.tuple #[.int .i64 (fstE s).1, .int .i64 (fstE s).2.1, w, .int .i64 (fstE s).2.2.2]) /\ SlI H' w (fstE s).2.2.1 /\ H.le H' := by
 obtain ⟨da, dc, ha, kc, na, nc, rfl, rfl, rfl, l1, l2, l3⟩ := hs.forms
 refine Aql func22 rfl ntmps22 (by simp) ?_
 (refine @unH _ (zA Aj7 ?_); (try clear hK K); intro K hK hc)
 intro sb hsb b0 hb0 b1 hb1 b2 hb2
 replace hb2 : (Hp.set (Hp.set (Hp.set H sb _) b0 _) b1 _) b2 = none := hb2
 replace hb1 : (Hp.set (Hp.set H sb _) b0 _) b1 = none := hb1
 replace hb0 : (Hp.set H sb _) b0 = none := hb0
 obtain ⟨n0s, f0⟩ := Aki hb0
 obtain ⟨n10, f1⟩ := Aki hb1
 obtain ⟨n1s, f1⟩ := Aki f1
 obtain ⟨n21, f2⟩ := Aki hb2
 obtain ⟨n20, f2⟩ := Aki f2
 obtain ⟨n2s, f2⟩ := Aki f2
 clear hb0 hb1 hb2
 have l01 : H.le (Hp.set (Hp.set (Hp.set (Hp.set H sb (smO s.places (.slice da s.doors.length dc) (.slice ha s.hampers.length kc) (.slice na s.noses.length nc))) b0 (.cells #[.int .i64 0] 3 (0, 0))) b1 (.cells #[.int .i64 0] 3 (0, 0))) b2 (.cells #[.slice none 0 0] 22 (0, 0))) := fun c z hc => by
  have c0 : c ≠ sb := fun e => by rw [e, hsb] at hc; cases hc
  have c1 : c ≠ b0 := fun e => by rw [e, f0] at hc; cases hc
  have c2 : c ≠ b1 := fun e => by rw [e, f1] at hc; cases hc
  have c3 : c ≠ b2 := fun e => by rw [e, f2] at hc; cases hc
  simp only [Hp.set, c0, c1, c2, c3, if_false, hc]
 generalize hG : Hp.set (Hp.set (Hp.set (Hp.set H sb _) b0 _) b1 _) b2 _ = H1 at l01 ⊢
 have vs : H1 sb = some (true, smO s.places (.slice da s.doors.length dc) (.slice ha s.hampers.length kc) (.slice na s.noses.length nc)) := by rw [<- hG]; simp [Hp.set, Ne.symm n0s, Ne.symm n1s, Ne.symm n2s]
 have v0 : H1 b0 = some (true, .cells #[.int .i64 0] 3 (0, 0)) := by rw [<- hG]; simp [Hp.set, Ne.symm n10, Ne.symm n20]
 have v1 : H1 b1 = some (true, .cells #[.int .i64 0] 3 (0, 0)) := by rw [<- hG]; simp [Hp.set, Ne.symm n21]
 have v2 : H1 b2 = some (true, .cells #[.slice none 0 0] 22 (0, 0)) := by rw [<- hG]; simp [Hp.set]
 have hs1 := hs.le l01
 clear hG hs
 (refine @unH _ (zU Aj7 ?_); (try clear hK K); intro K hK hc)
 refine (Az4 H1 s _ _ _ hs1 ok 0 _ [] (nilS H1) (by simp)).runs.mono ?_
 rw [Bx8]
 rintro _ H2 ⟨v, rfl, lH2, hv, _⟩
 have l02 := Hp.le_trans l01 lH2
 replace vs := lH2 _ _ vs
 replace v0 := lH2 _ _ v0
 replace v1 := lH2 _ _ v1
 replace v2 := lH2 _ _ v2
 clear hs1 l01 lH2
 have hss : Azv (Axl s) = susp s := rfl
 by_cases hz : Azi s = 0
 ·rw [if_pos hz]
  have hfe : fstE s = (0, 0, [], 11) := by
   unfold fstE
   rw [List.length_eq_zero_iff.1 ((Awj s).symm.trans hz)]
  replace hfe : Aqk _ := hfe
  clear hz hv hss
  (refine @unH _ (zU Aj7 ?_); (try clear hK K); intro K hK hc)
  generalize hG : Hp.set (Hp.set (Hp.set H2 b0 _) b1 _) b2 _ = H3
  have w0 : H3 b0 = some (true, .cells #[.int .i64 0] 3 (0, 0)) := by rw [<- hG]; simp [Hp.set, Ne.symm n10, Ne.symm n20]
  have w1 : H3 b1 = some (true, .cells #[.int .i64 0] 3 (0, 0)) := by rw [<- hG]; simp [Hp.set, Ne.symm n21]
  have w2 : H3 b2 = some (true, .cells #[.slice none 0 0] 22 (0, 0)) := by rw [<- hG]; simp [Hp.set]
  have l03 : H.le H3 := fun c z hc => by
   have c1 : c ≠ b0 := fun e => by rw [e, f0] at hc; cases hc
   have c2 : c ≠ b1 := fun e => by rw [e, f1] at hc; cases hc
   have c3 : c ≠ b2 := fun e => by rw [e, f2] at hc; cases hc
   rw [<- hG]
   simp only [Hp.set, c1, c2, c3, if_false]
   exact l02 _ _ hc
  clear hG
  refine Axs ?_
  (try refine @unH _ (zQ ?_))
  rw [Aq8]
  refine Bjc results22 (by decide) (by decide) (by decide) (by decide) rfl rfl rfl underlying3 rfl underlying3 rfl underlying22 rfl (by rw [cell_of w0]; rfl) (by rw [cell_of w1]; rfl) (by rw [cell_of w2]; rfl) _ _ ?_
  rw [show fstE s = _ from hfe]
  exact ⟨_, rfl, nilS _, l03⟩
 ·rw [if_neg hz] at hv ⊢
  replace hv := hv (.inl rfl)
  have hzn : Aqk (¬ Azi s = 0) := hz
  clear hz
  (refine @unH _ (zU Aj7 ?_); (try clear hK K); intro K hK hc)
  generalize hG : Hp.set H2 b0 _ = H3
  have w0 := Aqb hG
  have w1 := Aqi hG v1 n10
  have w2 := Aqi hG v2 n20
  have ws := Aqi hG vs (Ne.symm n0s)
  have hv3 : SlT H3 v (Axl s) := hv.move fun x p c fr hx => ⟨p, Aqi hG hx (fun e => by rw [e, v0] at hx; simp at hx)⟩
  have l03 : ∀ c z, c ≠ b0 -> c ≠ b1 -> c ≠ b2 -> H c = some z -> H3 c = some z := fun c z c0 _ _ hc => Aqi hG (l02 _ _ hc) c0
  clear hG v0 v1 v2 vs hv
  have hcl := Byb (.wg Tryz.prog) H3 b0 b1 b2 sb s.doors.length dc da s.places _ _ ok.dl ws (Ne.symm n10) (Ne.symm n0s) (Ne.symm n1s) (Ne.symm n2s)
  refine (Aw5 _ hcl H3 v _ (fun L H' hT _ => hv3.move fun x p c fr hx => ⟨p, hT.2 x _ (fun e => by rw [e, w0] at hx; simp at hx) (fun e => by rw [e, w1] at hx; simp at hx) (fun e => by rw [e, w2] at hx; simp at hx) hx⟩) (Ajj ok) (fun t ht _ _ _ _ => (Bxi ok t ht).1) (by rw [Azp]; have := ok.h1; omega) [] ⟨⟨-1, 0, _, w0, w1, w2, rfl⟩, fun _ _ _ _ _ hx => hx⟩).runs.mono ?_
  clear hcl w0 w1 w2 ws hv3
  rintro _ H4 ⟨rfl, hT, hfr⟩
  rw [List.nil_append, hss] at hT
  obtain ⟨⟨z, y, w, w0, w1, w2, hL⟩, hF⟩ := hT
  have l04 : H.le H4 := fun c x hc => hF c x (fun e => by rw [e, f0] at hc; cases hc) (fun e => by rw [e, f1] at hc; cases hc) (fun e => by rw [e, f2] at hc; cases hc) (l03 c x (fun e => by rw [e, f0] at hc; cases hc) (fun e => by rw [e, f1] at hc; cases hc) (fun e => by rw [e, f2] at hc; cases hc) hc)
  clear hF hfr l03 hss
  have hfe : ∃ l, SlI H4 w l /\ fstE s = (z, y, l, 0) := by
   cases hS : susp s with
   | nil => exact absurd ((Awj s).trans (by rw [hS]; rfl)) hzn
   | cons x L =>
    rw [hS] at hL
    obtain ⟨h1, _, h2, h3⟩ := hL
    exact ⟨_, h3, by unfold fstE; rw [hS]; simp only [h1, h2]⟩
  obtain ⟨l, hl, hfe⟩ := hfe
  replace hfe : Aqk _ := hfe
  clear hL
  obtain ⟨wa, wn, wc, rfl⟩ := hl.isSlice
  (refine @unH _ (zU Aj7 ?_); (try clear hK K); intro K hK hc)
  have m01 := Ne.symm n10
  have m02 := Ne.symm n20
  have m12 := Ne.symm n21
  refine Axn (fun HX => HX b0 = some (true, .cells #[.int .i64 z] 3 (0, 0)) /\ HX b1 = some (true, .cells #[.int .i64 y] 3 (0, 0)) /\ HX b2 = some (true, .cells #[.slice wa wn wc] 22 (0, 0))) [] (.take 0 (.take 1 (.take 2 (.one 3 (.one 4 (.one 5 (.free 6 .nil))))))) (by kernel_rfl) (by kernel_rfl) (by decide) (by kernel_rfl) ?_; intro K hK
  have hS0 : (fun HX : Hp => HX b0 = some (true, .cells #[.int .i64 z] 3 (0, 0)) /\ HX b1 = some (true, .cells #[.int .i64 y] 3 (0, 0)) /\ HX b2 = some (true, .cells #[.slice wa wn wc] 22 (0, 0))) H4 := ⟨w0, w1, w2⟩
  (apply Axe rfl rfl rfl ‹_›; (focus (intro HX hHX; simp -implicitDefEqProofs (disch := first | omega | (simp only [qd] <;> omega)) only [xq, ↓xp, qc, Nat.reduceAdd, List.range, List.range.loop, fine, Nat.reduceEqDiff, ↓reduceIte, yielded, reduceCtorEq, Nat.reduceLT, Nat.reduceMul, Nat.reduceSub, one, Nat.reduceLeDiff, Aqg, Aj7, aq, ↓ap, qe0, qe1, qe2, *, -hK, Axa, hHX.1] <;> (first | exact rfl | exact ⟨rfl, rfl⟩ | exact ⟨rfl, trivial⟩))); simp -implicitDefEqProofs (disch := first | omega | (simp only [qd] <;> omega)) only [Aq3, Aqm])
  (apply Axe rfl rfl rfl ‹_›; (focus (intro HX hHX; simp -implicitDefEqProofs (disch := first | omega | (simp only [qd] <;> omega)) only [xq, ↓xp, qc, Nat.reduceAdd, List.range, List.range.loop, fine, Nat.reduceEqDiff, ↓reduceIte, yielded, reduceCtorEq, Nat.reduceLT, Nat.reduceMul, Nat.reduceSub, one, Nat.reduceLeDiff, Aqg, Aj7, aq, ↓ap, qe0, qe1, qe2, *, -hK, Axa, hHX.2.1] <;> (first | exact rfl | exact ⟨rfl, rfl⟩ | exact ⟨rfl, trivial⟩))); simp -implicitDefEqProofs (disch := first | omega | (simp only [qd] <;> omega)) only [Aq3, Aqm])
  (apply Axe rfl rfl rfl ‹_›; (focus (intro HX hHX; simp -implicitDefEqProofs (disch := first | omega | (simp only [qd] <;> omega)) only [xq, ↓xp, qc, Nat.reduceAdd, List.range, List.range.loop, fine, Nat.reduceEqDiff, ↓reduceIte, yielded, reduceCtorEq, Nat.reduceLT, Nat.reduceMul, Nat.reduceSub, one, Nat.reduceLeDiff, Aqg, Aj7, aq, ↓ap, qe0, qe1, qe2, *, -hK, Axa, hHX.2.2] <;> (first | exact rfl | exact ⟨rfl, rfl⟩ | exact ⟨rfl, trivial⟩))); simp -implicitDefEqProofs (disch := first | omega | (simp only [qd] <;> omega)) only [Aq3, Aqm])
  refine Aqv ?_
  (refine @unH _ ?_; refine zX Aj7 ?_)
  refine ⟨.inr fun _ => trivial, Aqv ?_⟩
  (refine @unH _ ?_; refine zX Aj7 ?_)
  refine ⟨.inr fun _ => by simp only [Hp.set, if_true, if_false, m01, m02, m12, n10, n20, n21, w0, w1, w2, and_self], Aqv ?_⟩
  (refine @unH _ ?_; refine zX Aj7 ?_)
  refine ⟨.inr fun _ => by simp only [Hp.set, if_true, if_false, m01, m02, m12, n10, n20, n21, w0, w1, w2, and_self], ?_⟩
  (refine @unH _ ?_; refine zI Aj7 ?_)
  refine Axr (hK _ _ ?_)
  clear hK K hS0
  generalize hG : Hp.set (Hp.set (Hp.set H4 b0 _) b1 _) b2 _ = H5
  have hall : ∀ c x, H4 c = some x -> H5 c = some x := fun c x hx => by
   rw [<- hG]
   by_cases e2 : c = b2
   ·subst e2; rw [Axf, <- hx, w2]
   ·rw [Aqu e2]
    by_cases e1 : c = b1
    ·subst e1; rw [Axf, <- hx, w1]
    ·rw [Aqu e1]
     by_cases e0 : c = b0
     ·subst e0; rw [Axf, <- hx, w0]
     ·rw [Aqu e0]; exact hx
  clear hG
  replace w0 := hall _ _ w0
  replace w1 := hall _ _ w1
  replace w2 := hall _ _ w2
  replace hl := hl.le hall
  have l05 : H.le H5 := fun c x hx => hall _ _ (l04 _ _ hx)
  show wpX _ _ _ _ _ _ _
  refine Axs ?_
  (try refine @unH _ (zQ ?_))
  rw [Aq8]
  refine Bjc results22 (by decide) (by decide) (by decide) (by decide) rfl rfl rfl underlying3 rfl underlying3 rfl underlying22 rfl (by rw [cell_of w0]; rfl) (by rw [cell_of w1]; rfl) (by rw [cell_of w2]; rfl) _ _ ?_
  rw [show fstE s = _ from hfe]
  exact ⟨_, rfl, hl, l05⟩
def Ajz := aN @Byg (aN @Dyz (aN @Exl (aN @Eqv (aN @Dyv (aN @Exh (aN @Eqy (aN @Dj8 @Aza)))))))
def lowI (l : List Int) : Int := match l.getLast? with
 | none => 0
 | some x => x + 1
def Bx6 (l : List Int) (k : Nat) : List (List Int) := (List.range k).map fun (i : Nat) => l ++ [lowI l + (i : Int)]
def Azg (n : Nat) : Nat -> List (List Int)
 | 0 => [[]]
 | k + 1 => match (Azg n k)[k]? with
  | none => Azg n k
  | some l => Azg n k ++ Bx6 l ((n : Int) - lowI l).toNat
def Bqm (n : Nat) : List (List Int) := Azg n 16
def Cyp (n : Nat) : Bool := (List.range 17).all fun k => decide ((Azg n k).length <= 16) && (Azg n k).all fun l => decide (lowI l <= (n : Int)) && decide (0 <= lowI l) && decide (l.length <= 4)
theorem Cyq (n : Nat) (hn : n <= 4) : Cyp n = true := by
 rcases (by omega : n = 0 ∨ n = 1 ∨ n = 2 ∨ n = 3 ∨ n = 4) with rfl | rfl | rfl | rfl | rfl <;> kernel_rfl
theorem Cz9 {n k : Nat} (hn : n <= 4) (hk : k <= 16) : (Azg n k).length <= 16 /\ ∀ l ∈ Azg n k, lowI l <= (n : Int) /\ 0 <= lowI l /\ l.length <= 4 := by
 have h := Cyq n hn
 unfold Cyp at h
 rw [List.all_eq_true] at h
 have h := h k (List.mem_range.2 (by omega))
 rw [Bool.and_eq_true, List.all_eq_true] at h
 refine ⟨by simpa using h.1, fun l hl => ?_⟩
 have := h.2 l hl
 simp only [Bool.and_eq_true, decide_eq_true_eq] at this
 exact ⟨this.1.1, this.1.2, this.2⟩
theorem Byw {n k : Nat} (h : (Azg n k).length <= k) : ∀ j, Azg n (k + j) = Azg n k
 | 0 => rfl
 | j + 1 => by
  have ih := Byw h j
  show (match (Azg n (k + j))[k + j]? with | none => Azg n (k + j) | some l => Azg n (k + j) ++ Bx6 l ((n : Int) - lowI l).toNat) = _
  rw [ih, List.getElem?_eq_none (by omega)]
theorem Ckm (l : List Int) (k : Nat) : Bx6 l (k + 1) = Bx6 l k ++ [l ++ [lowI l + (k : Int)]] := by
 unfold Bx6
 rw [List.range_succ, List.map_append]
 rfl
theorem Cyn {H0 H : Hp} {b : Nat} {u : Value} (hb : H0 b = none) (hl : H0.le H) (hv : H b = some (true, .cells #[u] 22 (0, 0))) : RowX none H0 H (.slice (some ⟨b, 0, none⟩) 1 1) 22 [u] :=
 ⟨Lex.of hl, .inr ⟨b, #[u], 1, hb, hv, rfl, rfl, Nat.le_refl _, fun i w h => by
  cases i with
  | zero => simpa using h
  | succ i => simp at h⟩⟩
theorem Byv {H : Hp} {a : Option Addr} {n cap : Nat} {xss : List (List Int)} (h : SlR H (.slice a n cap) xss) {i : Nat} {xs : List Int} (hx : xss[i]? = some xs) :
  ∃ (b o : Nat) (p : Bool) (c : Array Value) (fr : Nat × Nat) (w : Value), a = some ⟨b, o, none⟩ /\ H b = some (p, .cells c 22 fr) /\ c[o + i]? = some w /\ SlI H w xs := by
 obtain ⟨a', cap', he, _, hg⟩ := h
 cases he
 exact hg i xs hx
theorem last_at {l : List Int} (h : l ≠ []) : ∃ x, l[l.length - 1]? = some x /\ lowI l = x + 1 := by
 unfold lowI
 rw [List.getLast?_eq_getElem?]
 have hl : 0 < l.length := List.length_pos_iff.2 h
 rw [List.getElem?_eq_getElem (show l.length - 1 < l.length by omega)]
 exact ⟨_, rfl, rfl⟩
theorem Cxn (m : Md) (H : Hp) (n : Nat) (hn : n <= 4) :
  FnX Tryz.prog m 69 #[.int .i64 (n : Nat)] H fun e H' => ∃ v, e = .returned v /\ SlR H' v (Bqm n) /\ H.le H' := by
 refine Aql func69 rfl ntmps69 (by simp) ?_
 (refine @unH _ (zA Ajz ?_); (try clear hK K); intro K hK hc)
 (intro ob hob; generalize hG : Hp.set _ ob _ = H1; have lH1 := Aqc hG hob; have vob := Aqb hG; clear hG)
 have hrow : RowX none H H1 (.slice (some ⟨ob, 0, none⟩) 1 1) 22 [.slice none 0 0] := Cyn hob lH1 vob
 have hR : Rows H1 [.slice none 0 0] (Azg n 0) := ⟨rfl, fun i xs hi => by
  cases i with
  | zero => simp only [Azg, List.getElem?_cons_zero, Option.some.injEq] at hi; subst hi; exact ⟨_, rfl, nilS _⟩
  | succ i => simp [Azg] at hi⟩
 clear hob lH1 vob
 (refine @unH _ (zU Ajz ?_); (try clear hK K); intro K hK hc)
 refine Axc (fun w a' H' => ∃ e k ov vs, w = 16 - k /\ k <= 16 /\ k <= (Azg n k).length /\ a' = act 44 e [] /\ e 0 = .int .i64 (n : Nat) /\ e 3 = ov /\ e 4 = .int .i64 (k : Nat) /\ RowX none H H' ov 22 vs /\ Rows H' vs (Azg n k)) (n := 16) ?_ ?_
 ·exact ⟨_, 0, _, _, by omega, by omega, Nat.zero_le _, rfl, rfl, rfl, rfl, hrow, hR⟩
 clear hrow hR
 rintro w a' H2 ⟨e, k, ov, vs, rfl, hk, hk2, rfl, e0, e3, e4, hrow, hR⟩
 obtain ⟨hlen, hall⟩ := Cz9 hn hk
 have hsucc : Azg n (k + 1) = match (Azg n k)[k]? with | none => Azg n k | some l => Azg n k ++ Bx6 l ((n : Int) - lowI l).toNat := rfl
 have hend := Byw (n := n) (k := k)
 obtain ⟨oa, oc, rfl⟩ := hrow.len
 have hvl := hR.1
 have hsr := hrow.rows hR
 generalize Azg n k = R0 at *
 rw [hvl] at hsr e3
 by_cases hlt : k < R0.length
 ·have hkt := List.getElem?_eq_getElem hlt
  obtain ⟨g1, g2, g3⟩ := hall _ (List.getElem_mem hlt)
  generalize R0[k] = l at *
  rw [hkt] at hsucc
  simp only at hsucc
  replace hsucc : Aqk _ := hsucc
  replace hall : Aqk _ := hall
  replace hend : Aqk _ := hend
  obtain ⟨b, o, p, c, fr, u, rfl, hb, hcu, hu⟩ := Byv hsr hkt
  obtain ⟨ua, uc, rfl, _, _⟩ := id hu
  replace hvl : Aqk _ := hvl
  refine Av3 (fun a' H' => ∃ e, a' = act 44 e [] /\ e 0 = .int .i64 (n : Nat) /\ e 3 = .slice (some ⟨b, o, none⟩) R0.length oc /\ e 4 = .int .i64 (k : Nat) /\ H' = H2) ?_ ?_
  ·(refine @unH _ (zA Ajz ?_); (try clear hK K); intro K hK hc)
   exact ⟨_, rfl, e0, e3, e4, trivial⟩
  clear e0 e3 e4
  rintro _ HQ ⟨e, rfl, e0, e3, e4, hQ⟩
  rw [hQ]; clear hQ HQ
  refine Axp (Ax7 ?_)
  refine Axp ?_
  (refine @unH _ (zS Ajz ?_); (try clear hK K); intro K hK hc)
  refine Av3 (fun a' H' => ∃ e, a' = act 44 e [] /\ e 0 = .int .i64 (n : Nat) /\ e 3 = .slice (some ⟨b, o, none⟩) R0.length oc /\ e 4 = .int .i64 (k : Nat) /\ e 5 = .slice ua l.length uc /\ e 6 = .int .i64 (lowI l) /\ H' = H2) ?_ ?_
  ·by_cases hl0 : l = []
   ·have hlow : lowI l = 0 := by rw [hl0]; rfl
    have hln : l.length <= 0 := by rw [hl0]; exact Nat.le_refl _
    replace hlow : Aqk _ := hlow
    clear hl0
    (refine @unH _ (zA Ajz ?_); (try clear hK K); intro K hK hc)
    exact ⟨_, rfl, e0, e3, e4, rfl, by rw [show lowI l = 0 from hlow]; rfl, trivial⟩
   ·obtain ⟨z, hz, hlow⟩ := last_at hl0
    have hln : 0 < l.length := List.length_pos_iff.2 hl0
    obtain ⟨ub, uo, up, cc, ufr, rfl, hub, hux⟩ := hu.get hz
    have hux2 : cc[uo + ((l.length : Int) - 1).toNat]? = some (.int .i64 z) := by rw [show ((l.length : Int) - 1).toNat = l.length - 1 by omega]; exact hux
    have hz0 : 0 <= z + 1 /\ z + 1 <= n := by rw [<- hlow]; exact ⟨g2, g1⟩
    obtain ⟨hz1, hz2⟩ := hz0
    replace hlow : Aqk _ := hlow
    clear hl0
    (refine @unH _ (zA Ajz ?_); (try clear hK K); intro K hK hc)
    exact ⟨_, rfl, e0, e3, e4, rfl, by rw [show lowI l = _ from hlow]; rfl, trivial⟩
  clear e0 e3 e4
  rintro _ HQ ⟨e, rfl, e0, e3, e4, e5, e6, hQ⟩
  rw [hQ]; clear hQ HQ
  (refine @unH _ (zA Ajz ?_); (try clear hK K); intro K hK hc)
  obtain ⟨q, hq⟩ : ∃ q : Nat, q = ((n : Int) - lowI l).toNat := ⟨_, rfl⟩
  have hqn : lowI l + (q : Int) = n := by omega
  rw [<- hq] at hsucc
  have hq4 : q <= 4 := by omega
  clear hq
  have hns := Ckm l
  generalize lowI l = lo at *
  replace hns : Aqk _ := hns
  refine Axc (fun w a' H' => ∃ e x ov vs, w = q - x /\ x <= q /\ a' = act 44 e [] /\ e 0 = .int .i64 (n : Nat) /\ e 3 = ov /\ e 4 = .int .i64 (k : Nat) /\ e 5 = .slice ua l.length uc /\ e 7 = .int .i64 (lo + (x : Int)) /\ RowX none H H' ov 22 vs /\ Rows H' vs (R0 ++ Bx6 l x) /\ SlI H' (.slice ua l.length uc) l) (n := q) ?_ ?_
  ·exact ⟨_, 0, .slice (some ⟨b, o, none⟩) vs.length oc, vs, by omega, by omega, rfl, e0, by rw [show vs.length = R0.length from hvl]; exact e3, e4, e5, by simp [Axh], hrow, by simpa [Bx6] using hR, hu⟩
  clear e0 e3 e4 e5 e6 hrow hR hu hsr hb hcu
  rintro w a' H4 ⟨e, x, ov, vs, rfl, hx, rfl, e0, e3, e4, e5, e7, hrow, hR, hu⟩
  by_cases hxq : x < q
  ·obtain ⟨oa, oc, rfl⟩ := hrow.len
   have hvb : vs.length <= 20 := by
    rw [hR.1, List.length_append]
    simp only [Bx6, List.length_map, List.length_range]
    omega
   (refine @unH _ (zA Ajz ?_); (try clear hK K); intro K hK hc)
   refine (Cjy _ H4 _ l hu (by omega)).runs.mono ?_
   rintro _ H5 ⟨cv, rfl, hcl⟩
   have l45 := hcl.1.toLe
   obtain ⟨ca, cc2, rfl⟩ := id hcl.len
   rw [Aqz] at hcl ⊢
   (refine @unH _ (zU Ajz ?_); intro _ _ hc)
   intro nb hnb
   refine Bva hcl hnb (by omega) _ _ _ _ (fun v6 H6 hw ho6 => ?_)
   have l46 := hw.1.toLe
   have hwv := hw.ints
   obtain ⟨wa, wc, rfl⟩ := id hw.len
   (refine @unH _ (zU Ajz ?_); intro _ _ hc)
   intro mb hmb
   refine Dqh (hrow.le l46) rfl hmb (by omega) _ _ _ _ (fun v7 H7 hrB hoB => ?_)
   (refine @unH _ (zU Ajz ?_); (try clear hK K); intro K hK hc)
   have hmv : ∀ v xs, SlI H6 v xs -> SlI H7 v xs := fun v xs h => h.move fun x p c fr hx => hoB.cells hx (by decide)
   refine ⟨_, by omega, _, x + 1, v7, _, rfl, hxq, rfl, e0, rfl, e4, e5, ?_, hrB, ?_, hmv _ _ (hu.le l46)⟩
   ·simp only [Axh, Nat.reduceEqDiff, ↓reduceIte]
    exact congrArg (Value.int .i64) (by omega)
   ·rw [show Bx6 l (x + 1) = _ from (show ∀ k : Nat, Bx6 l (k + 1) = Bx6 l k ++ [l ++ [lo + (k : Int)]] from hns) x, <- List.append_assoc]
    exact (hR.mono fun v xs h => hmv _ _ (h.le l46)).snoc (hmv _ _ hwv)
  ·obtain rfl : x = q := by omega
   obtain ⟨oa, oc, rfl⟩ := hrow.len
   (refine @unH _ (zA Ajz ?_); (try clear hK K); intro K hK hc)
   refine ⟨_, by omega, _, k + 1, _, vs, rfl, by omega, ?_, rfl, e0, e3, rfl, hrow, by rw [show Azg n (k + 1) = _ from hsucc]; exact hR⟩
   rw [show Azg n (k + 1) = _ from hsucc, List.length_append]
   omega
 ·obtain rfl : k = R0.length := by omega
  replace hend : Aqk _ := hend
  replace hsucc : Aqk _ := hsucc
  replace hall : Aqk _ := hall
  replace hvl : Aqk _ := hvl
  (refine @unH _ (zA Ajz ?_); (try clear hK K); intro K hK hc)
  (refine @unH _ ?_; refine z9 results69 ?_)
  refine ⟨_, rfl, ?_, hrow.1.toLe⟩
  have h16 := (show R0.length <= R0.length -> ∀ j : Nat, Azg n (R0.length + j) = R0 from hend) (Nat.le_refl _) (16 - R0.length)
  rw [show R0.length + (16 - R0.length) = 16 by omega] at h16
  unfold Bqm
  rw [h16]
  exact hsr
end Go.Proofs.YtnfnaehonkbknaaGreatDoor
end
section
namespace Go.X
open Go
theorem SlG.cells {e : TypeId} {sz : Nat} (hsz : 0 < sz) {H : Hp} {b o n cap : Nat} {rows : List (List Value)} (h : SlG e sz H (.slice (some ⟨b, o, none⟩) n cap) rows) : ∀ j u, (rows.flatMap id)[j]? = some u -> H.cell ⟨b, o + j, none⟩ = some u := by
 have hl : ∀ r ∈ rows, (id r : List Value).length = sz := fun r hr => by
  obtain ⟨i, hi⟩ := List.getElem?_of_mem hr
  obtain ⟨_, _, _, _, _, _, _, _, h4, _⟩ := h.get hi
  exact h4
 intro j u hj
 rw [Ayu id sz hsz rows hl] at hj
 cases hi : rows[j / sz]? with
 | none => rw [hi] at hj; cases hj
 | some r =>
  rw [hi] at hj
  simp only [Option.bind_some, id] at hj
  obtain ⟨b', o', p, c, fr, h1, h2, h3, h4, h5⟩ := h.get hi
  cases h1
  have hm : j % sz < sz := Nat.mod_lt _ hsz
  have hx := Bzb h5 h3 hj
  rw [cell_of h2]
  rw [show o + j = o + j / sz * sz + j % sz by have := Nat.div_add_mod j sz; rw [Nat.mul_comm] at this; omega]
  exact hx
theorem SlG.of {e : TypeId} {sz : Nat} (hsz : 0 < sz) {H : Hp} {b N : Nat} {p : Bool} {c : Array Value} {fr : Nat × Nat} {rows : List (List Value)} (hb : H b = some (p, .cells c e fr)) (hr : ∀ r ∈ rows, r.length = sz) (hc : ∀ (j : Nat) (u : Value), (rows.flatMap id)[j]? = some u -> c[j]? = some u) (hN : rows.length <= N) : SlG e sz H (.slice (some ⟨b, 0, none⟩) rows.length N) rows := by
 refine ⟨_, N, rfl, hN, fun i r hi => ⟨b, 0, p, c, fr, rfl, hb, ?_, hr r (List.mem_of_getElem? hi), ?_⟩⟩
 ·have hir := (List.getElem?_eq_some_iff.1 hi).1
  have hlen : (rows.flatMap id).length = rows.length * sz := by
   rw [Avs id sz rows hr]
  have h1 : i * sz + sz <= rows.length * sz := by
   rw [<- Nat.succ_mul]
   exact Nat.mul_le_mul_right _ hir
  have h2 : i * sz + sz - 1 < (rows.flatMap id).length := by omega
  have h3 := hc _ _ (List.getElem?_eq_getElem h2)
  have h4 := (Array.getElem?_eq_some_iff.1 h3).1
  omega
 ·apply Array.ext_getElem?
  intro k
  have hrl := hr r (List.mem_of_getElem? hi)
  rw [Array.getElem?_extract]
  by_cases hk : k < sz
  ·have hfl : (rows.flatMap id)[i * sz + k]? = r[k]? := by
    rw [Ayu id sz hsz rows hr, Nat.mul_comm, Nat.mul_add_div hsz, Nat.div_eq_of_lt hk, Nat.add_zero, hi, Nat.mul_add_mod, Nat.mod_eq_of_lt hk]
    rfl
   have h2 : k < r.length := by omega
   have h3 := hc (i * sz + k) r[k] (by rw [hfl, List.getElem?_eq_getElem h2])
   have h4 := (Array.getElem?_eq_some_iff.1 h3).1
   rw [if_pos (by omega), Nat.zero_add, h3]
   simp [h2]
  ·rw [if_neg (by omega), Array.getElem?_eq_none (by simp; omega)]
theorem Bwr {P : Program} {t e : TypeId} {z : Value} {inf : TypeInfo} {sz : Nat} (hsz : 0 < sz) (hu : P.underlying t = some (.slice e)) (hs : ∀ w, (sizeOf e).run P w = .ok sz w) (hz : ∀ w, (zeroValue e).run P w = .ok z w) (hzc : z.cells.size = sz)
  (hi : ∀ w, (typeInfo e).run P w = .ok inf w) (hby : inf.bytes <= 1024) (hby0 : 0 < inf.bytes) {H : Hp} {a : Option Addr} {n : Nat} {rows1 rows2 : List (List Value)} (h1 : SlG e sz H (.slice a n n) rows1)
  {g : Option Addr} {m cap : Nat} (h2 : SlG e sz H (.slice g m cap) rows2) (hn : n + m <= 1000000)
  (ty : TypeId) (cb : Array Bool) (K : Next -> Hp -> Prop) (E : Value -> Hp -> Prop)
  (h0 : rows2 = [] -> K (.value (.slice a n n)) H)
  (h : ∀ b' C N, H b' = none -> rows2 ≠ [] -> n + m <= N -> C.size = N * sz -> (∀ r ∈ rows1 ++ rows2, r.length = sz) -> (∀ (j : Nat) (u : Value), ((rows1 ++ rows2).flatMap id)[j]? = some u -> C[j]? = some u) -> K (.value (.slice (some ⟨b', 0, none⟩) (n + m) N)) (H.set b' (.cells C e (0, 0)))) :
  wpS P (builtin .append #[t, t] ty cb #[.slice a n n, .slice g m cap]) H K E := by
 have hl1 := h1.len.1
 have hl2 := h2.len.1
 by_cases hm : m = 0
 ·subst hm
  have : rows2 = [] := List.eq_nil_of_length_eq_zero hl2.symm
  exact Ayq hu hs _ _ _ _ _ _ _ (Nat.le_refl _) _ _ (h0 this)
 have hr1 : ∀ r ∈ rows1, (id r : List Value).length = sz := fun r hr => by
  obtain ⟨i, hi⟩ := List.getElem?_of_mem hr
  obtain ⟨_, _, _, _, _, _, _, _, h4, _⟩ := h1.get hi
  exact h4
 have hr2 : ∀ r ∈ rows2, (id r : List Value).length = sz := fun r hr => by
  obtain ⟨i, hi⟩ := List.getElem?_of_mem hr
  obtain ⟨_, _, _, _, _, _, _, _, h4, _⟩ := h2.get hi
  exact h4
 obtain ⟨⟨gb, go, rfl⟩⟩ : Nonempty (∃ gb go, g = some ⟨gb, go, none⟩) := by
  cases hx : rows2 with
  | nil => rw [hx] at hl2; exact absurd hl2 hm
  | cons r l =>
   obtain ⟨b, o, _, _, _, hh, _⟩ := h2.get (i := 0) (r := r) (by rw [hx]; rfl)
   exact ⟨b, o, hh⟩
 have hinf := Akt hi
 have hf1 : (rows1.flatMap id).length = n * sz := by rw [Avs id sz rows1 hr1, hl1]
 have hf2 : (rows2.flatMap id).length = m * sz := by rw [Avs id sz rows2 hr2, hl2]
 simp only [builtin]
 rw [Aqa]
 unfold Builtin.append_
 simp only [List.getElem?_toArray, List.getElem?_cons_zero, List.getElem?_cons_succ]
 rw [Aqa, Aqj hu]
 simp only [Aqa, Aq0 hs, Aqj hu, Aqe, Bool.false_eq_true, if_false, Builtin.lenOf, Bjq]
 have hfirst : ∀ (K' : Array Value -> Hp -> Prop), wpS P (Builtin.firstCells sz m (.slice (some ⟨gb, go, none⟩) m cap)) H K' E = K' (rows2.flatMap id).toArray H := fun K' => by
  unfold Builtin.firstCells
  exact Azq hf2 (h2.cells hsz) K' E
 have hold : ∀ (K' : Array Value -> Hp -> Prop), wpS P (Builtin.firstCells sz n (.slice a n n)) H K' E = K' (rows1.flatMap id).toArray H := fun K' => by
  unfold Builtin.firstCells
  cases hx : rows1 with
  | nil =>
   rw [hx] at hl1
   simp only [List.length_nil] at hl1
   subst hl1
   cases a with
   | none => rfl
   | some a => simp only [loadCells, Nat.zero_mul]; rfl
  | cons r l =>
   obtain ⟨b, o, _, _, _, hh, _⟩ := h1.get (i := 0) (r := r) (by rw [hx]; rfl)
   subst hh
   simp only
   rw [<- hx]
   exact Azq hf1 (h1.cells hsz) K' E
 rw [if_neg (show ¬ n + m <= n by omega)]
 have hnc := Bkp (n + m) n (by omega)
 simp only [Aj5 hinf]
 rw [if_neg (by intro hh; have := hh.2; simp at this; omega)]
 rw [if_neg (by
  have : Builtin.nextslicecap (n + m) n * inf.bytes <= (2 * (n + m) + 400) * 1024 := Nat.mul_le_mul hnc hby
  omega)]
 simp only [choose, wpS, Question.forced, Bool.false_eq_true, if_false, Question.cut]
 intro t
 simp only [Aw0, hold, Bool.not_false, if_true, hfirst, Axg hz, newRow, newObj, Aqa, wpS, Aqe]
 intro b' hb'
 generalize hN : n + m + t % (2 ^ 63 - (n + m)) = N
 have hNge : n + m <= N := by omega
 have hall : ∀ r ∈ rows1 ++ rows2, r.length = sz := fun r hr => by
  rcases List.mem_append.1 hr with h | h
  ·exact hr1 r h
  ·exact hr2 r h
 generalize hC : (rows1.flatMap id).toArray ++ (rows2.flatMap id).toArray ++ _ = C
 refine h b' C N hb' (fun e => hm (by rw [hl2, e]; rfl)) hNge ?_ hall fun j u hj => ?_
 ·rw [<- hC]
  simp only [Array.size_append, List.size_toArray, Builtin.zeroCells, Array.size_map, Array.size_range, hzc, hf1, hf2]
  rw [<- Nat.add_mul, <- Nat.add_mul]
  congr 1
  omega
 ·rw [List.flatMap_append] at hj
  have hjl := (List.getElem?_eq_some_iff.1 hj).1
  rw [<- hC, Array.getElem?_append_left (by simpa using hjl)]
  simpa using hj
theorem Bws {P : Program} {t e : TypeId} {z : Value} {inf : TypeInfo} {sz : Nat} (hsz : 0 < sz) (hu : P.underlying t = some (.slice e)) (hs : ∀ w, (sizeOf e).run P w = .ok sz w) (hz : ∀ w, (zeroValue e).run P w = .ok z w) (hzc : z.cells.size = sz)
  (hi : ∀ w, (typeInfo e).run P w = .ok inf w) (hby : inf.bytes <= 1024) (hby0 : 0 < inf.bytes) {H : Hp} {a : Option Addr} {n : Nat} {rows1 rows2 : List (List Value)} (h1 : SlG e sz H (.slice a n n) rows1)
  {g : Option Addr} {m cap : Nat} (h2 : SlG e sz H (.slice g m cap) rows2) (hn : n + m <= 1000000)
  (ty : TypeId) (cb : Array Bool) (K : Next -> Hp -> Prop) (E : Value -> Hp -> Prop)
  (h : ∀ v' H', SlG e sz H' v' (rows1 ++ rows2) -> H.le H' -> K (.value v') H') :
  wpS P (builtin .append #[t, t] ty cb #[.slice a n n, .slice g m cap]) H K E := by
 have hl1 := h1.len.1
 have hl2 := h2.len.1
 refine Bwr hsz hu hs hz hzc hi hby hby0 h1 h2 hn ty cb K E (fun e => h _ H (by rw [e, List.append_nil]; exact h1) (Hp.le_refl _)) fun b' C N hb' _ hN _ hall hC => ?_
 have hb : (H.set b' (.cells C e (0, 0))) b' = some (true, .cells C e (0, 0)) := by rw [Axo, if_pos rfl]
 have hres := SlG.of hsz (rows := rows1 ++ rows2) (N := N) hb hall hC (by rw [List.length_append, <- hl1, <- hl2]; exact hN)
 rw [List.length_append, <- hl1, <- hl2] at hres
 exact h _ _ hres (Hp.le_set hb')
end Go.X
end
section
namespace Go.X
open Go
theorem SlG.hi {e : TypeId} {sz : Nat} {H : Hp} {a : Option Addr} {n cap : Nat} {rows : List (List Value)} (h : SlG e sz H (.slice a n cap) rows) {k : Nat} (hk : k <= n) : SlG e sz H (.slice a k k) (rows.take k) := by
 obtain ⟨h1, h2⟩ := h.len
 have hl : (rows.take k).length = k := by rw [List.length_take]; omega
 refine ⟨a, k, by rw [hl], by rw [hl]; exact Nat.le_refl _, fun i r hr => ?_⟩
 have hi : i < k := by have := (List.getElem?_eq_some_iff.1 hr).1; omega
 rw [List.getElem?_take_of_lt hi] at hr
 exact h.get hr
theorem SlG.lo {e : TypeId} {sz : Nat} {H : Hp} {b o n cap : Nat} {rows : List (List Value)} (h : SlG e sz H (.slice (some ⟨b, o, none⟩) n cap) rows) {k : Nat} (hk : k <= n) : SlG e sz H (.slice (if cap = k then some ⟨b, o, none⟩ else some ⟨b, o + k * sz, none⟩) (n - k) (cap - k)) (rows.drop k) := by
 obtain ⟨h1, h2⟩ := h.len
 have hl : (rows.drop k).length = n - k := by rw [List.length_drop]; omega
 refine ⟨_, cap - k, by rw [hl], by rw [hl]; omega, fun i r hr => ?_⟩
 have hi : i < n - k := by have := (List.getElem?_eq_some_iff.1 hr).1; omega
 rw [List.getElem?_drop] at hr
 obtain ⟨b', o', p, c, fr, g1, g2, g3, g4, g5⟩ := h.get hr
 cases g1
 have e1 : o + k * sz + i * sz = o + (k + i) * sz := by rw [Nat.add_mul]; omega
 exact ⟨b, o + k * sz, p, c, fr, by rw [if_neg (by omega)], g2, by rw [e1]; exact g3, g4, by rw [e1]; exact g5⟩
end Go.X
namespace Go.Proofs.YtnfnaehonkbknaaGreatDoor
open Go Go.X Go.Proofs.Tryz
def Ax1 := aN @Eq4 (aN @Bvi (aN @Dy9 (aN @Eqx (aN @Dyx (aN @Dkd (aN @Dyz (aN @Exl (aN @Eqv (aN @Exs (aN @Exc (aN @Dyv (aN @Exh (aN @Eqy (aN (fun H => Bv7 (H := H) underlying24 sizeOf46) (aN (fun H => Bv8 (H := H) underlying24 sizeOf46) (aN (fun H => Bxe (H := H) underlying24 sizeOf46) (aN (fun H => Bxu (H := H) underlying24 sizeOf46) (aN @Ex4 @Dj9))))))))))))))))))
def woN (ns : List Ns) (l : List Int) : List Ns := l.foldr (fun i L => L.take i.toNat ++ L.drop (i.toNat + 1)) ns
def woS (s : Sm) (l : List Int) : Sm := ⟨s.places, s.doors, s.hampers, woN s.noses l⟩
theorem Cx4 {ns : List Ns} : ∀ {l : List Int} {n : Ns}, n ∈ woN ns l -> n ∈ ns
 | [], _, h => h
 | i :: l, n, h => by
  unfold woN at h
  rw [List.foldr_cons] at h
  rcases List.mem_append.1 h with h | h
  ·exact Cx4 (l := l) (List.mem_of_mem_take h)
  ·exact Cx4 (l := l) (List.mem_of_mem_drop h)
theorem Cy1 {ns : List Ns} : ∀ (l : List Int), (woN ns l).length <= ns.length
 | [] => Nat.le_refl _
 | i :: l => by
  have := Cy1 (ns := ns) l
  unfold woN at this ⊢
  rw [List.foldr_cons, List.length_append, List.length_take, List.length_drop]
  omega
theorem Dwu {s : Sm} (ok : SmOk s) (l : List Int) : SmOk (woS s l) :=
 ⟨ok.p0, ok.p1, ok.dl, ok.dk, ok.h0, ok.h1, ok.hk, ok.hd, Nat.le_trans (Cy1 l) ok.nl, fun n hn => ok.nk n (Cx4 hn)⟩
def Cwz (n : Nat) : Bool := (Bqm n).all fun l => decide (l.length <= n) && (List.range l.length).all fun k => decide (0 <= l.getD k 0) && decide (l.getD k 0 + ((l.length : Int) - 1 - (k : Int)) < (n : Int))
theorem Cw0 (n : Nat) (hn : n <= 4) : Cwz n = true := by
 rcases (by omega : n = 0 ∨ n = 1 ∨ n = 2 ∨ n = 3 ∨ n = 4) with rfl | rfl | rfl | rfl | rfl <;> kernel_rfl
theorem Dxw {n : Nat} (hn : n <= 4) {l : List Int} (hl : l ∈ Bqm n) : l.length <= n /\ ∀ (k : Nat) (x : Int), l[k]? = some x -> 0 <= x /\ x + ((l.length : Int) - 1 - (k : Int)) < (n : Int) := by
 have h := Cw0 n hn
 unfold Cwz at h
 rw [List.all_eq_true] at h
 have h := h l hl
 rw [Bool.and_eq_true, List.all_eq_true] at h
 refine ⟨by simpa using h.1, fun k x hx => ?_⟩
 have hk := (List.getElem?_eq_some_iff.1 hx).1
 have := h.2 k (List.mem_range.2 hk)
 simp only [Bool.and_eq_true, decide_eq_true_eq, List.getD, hx, Option.getD_some] at this
 exact this
theorem Bkh {α : Type} {p : α -> Bool} : ∀ {L : List α} {k : Nat} {l : α}, L[k]? = some l -> (∀ x ∈ L.take k, p x = false) -> p l = true -> L.find? p = some l
 | [], _, _, h, _, _ => by simp at h
 | a :: L, 0, l, h, _, hp => by
  simp only [List.getElem?_cons_zero, Option.some.injEq] at h
  subst h
  rw [List.find?_cons, hp]
 | a :: L, k + 1, l, h, hn, hp => by
  rw [List.find?_cons, hn a (by simp)]
  exact Bkh (k := k) (by simpa using h) (fun x hx => hn x (by simp [hx])) hp
def wroF (s : Sm) : List Int := ((Bqm s.noses.length).find? fun l => decide (0 < Azi (woS s l))).getD []
theorem Cxr (H : Hp) (s : Sm) (dv hv nv : Value) (hs : SmIn H dv hv nv s) (ok : SmOk s) :
  FnX Tryz.prog (.wg Tryz.prog) 34 #[smV s.places dv hv nv] H fun e H' => ∃ v, e = .returned (.tuple #[v, .int .i64 0]) /\ SlI H' v (wroF s) /\ H.le H' := by
 obtain ⟨da, dc, ha, kc, na, nc, rfl, rfl, rfl, l1, l2, l3⟩ := hs.forms
 have hnl := ok.nl
 refine Aql func34 rfl ntmps34 (by simp) ?_
 (refine @unH _ (zA Ax1 ?_); (try clear hK K); intro K hK hc)
 (intro sb hsb; generalize hG : Hp.set _ sb _ = H1; have lH1 := Aqc hG hsb; have vsb := Aqb hG; clear hG)
 have hs1 := hs.le lH1
 clear hs hsb
 (refine @unH _ (zU Ax1 ?_); (try clear hK K); intro K hK hc)
 refine (Avr _ H1 s _ _ _ hs1 ok).runs.mono ?_
 rintro _ H2 ⟨rfl, lH2⟩
 have l02 := Hp.le_trans lH1 lH2
 have vs2 := lH2 _ _ vsb
 have hs2 := hs1.le lH2
 clear lH1 lH2 vsb hs1
 (refine @unH _ (zU Ax1 ?_); (try clear hK K); intro K hK hc)
 refine (Cxn _ H2 s.noses.length hnl).runs.mono ?_
 rintro _ H3 ⟨lv, rfl, hlv, lH3⟩
 have l03 := Hp.le_trans l02 lH3
 have vs3 := lH3 _ _ vs2
 have hs3 := hs2.le lH3
 clear l02 lH3 vs2 hs2
 have hlo := fun l (hl : l ∈ Bqm s.noses.length) => Dxw hnl hl
 have hwr : wroF s = ((Bqm s.noses.length).find? fun l => decide (0 < Azi (woS s l))).getD [] := rfl
 have hll : (Bqm s.noses.length).length <= 16 := (Cz9 hnl (Nat.le_refl _)).1
 generalize Bqm s.noses.length = LL at *
 replace hlo : Aqk _ := hlo
 replace hwr : Aqk _ := hwr
 obtain ⟨la, lc, rfl, hlc, _⟩ := id hlv
 (refine @unH _ (zU Ax1 ?_); (try clear hK K); intro K hK hc)
 refine Axc (fun w a' H' => ∃ e, ∃ k : Nat, w = LL.length - k /\ k <= LL.length /\ a' = act 52 e [] /\ e 1 = .pointer (some ⟨sb, 0, none⟩) /\ e 18 = .slice la LL.length lc /\ e 19 = .int .i64 (LL.length : Nat) /\ e 20 = .int .i64 (k : Nat) /\ H.le H' /\ H3.le H' /\ ∀ l ∈ LL.take k, decide (0 < Azi (woS s l)) = false) (n := LL.length) ?_ ?_
 ·exact ⟨_, 0, by omega, by omega, rfl, rfl, rfl, rfl, rfl, l03, Hp.le_refl _, fun l hl => by simp at hl⟩
 rintro w a' H4 ⟨e, k, rfl, hk, rfl, e1, e18, e19, e20, l04, l34, hno⟩
 have vs4 := l34 _ _ vs3
 have hs4 := hs3.le l34
 have hlv4 := hlv.le l34
 by_cases hlt : k < LL.length
 ·have hkt := List.getElem?_eq_getElem hlt
  obtain ⟨hln, hlx⟩ := (show ∀ l ∈ LL, _ from hlo) _ (List.getElem_mem hlt)
  have hst : (∀ q : Bool, decide (0 < Azi (woS s LL[k])) = q -> (q = true -> wroF s = LL[k]) /\ (q = false -> ∀ l ∈ LL.take (k + 1), decide (0 < Azi (woS s l)) = false)) := fun q hq => by
   subst hq
   refine ⟨fun ht => ?_, fun hf l hl => ?_⟩
   ·rw [show wroF s = _ from hwr, Bkh (p := fun l => decide (0 < Azi (woS s l))) hkt hno ht]
    rfl
   ·rw [List.take_add_one, hkt, Option.toList_some] at hl
    rcases List.mem_append.1 hl with h | h
    ·exact hno l h
    ·simp only [List.mem_cons, List.not_mem_nil, or_false] at h
     rw [h]; exact hf
  generalize LL[k] = l at *
  obtain ⟨b, o, p, c, fr, u, rfl, hb, hcu, hu⟩ := Byv hlv4 hkt
  obtain ⟨ua, uc, rfl, _, _⟩ := id hu
  replace hst : Aqk _ := hst
  replace hlx : Aqk _ := hlx
  replace hno : Aqk _ := hno
  (refine @unH _ (zA Ax1 ?_); (try clear hK K); intro K hK hc)
  (intro xb hxb; generalize hG : Hp.set _ xb _ = H5; have lH5 := Aqc hG hxb; have vxb := Aqb hG; clear hG)
  have hs5 := hs4.le lH5
  have hu5 := hu.le lH5
  have l05 := Hp.le_trans l04 lH5
  have l35 := Hp.le_trans l34 lH5
  have f3x : H3 xb = none := Hp.le_none l34 hxb
  have f0x : H xb = none := Hp.le_none l04 hxb
  clear lH5 l04 l34 hs4 hlv4 vs4 hb hcu hu hxb
  (refine @unH _ (zU Ax1 ?_); (try clear hK K); intro K hK hc)
  refine Axc (fun w a' H' => ∃ e, ∃ j : Nat, ∃ na' n' nc', j = w /\ j <= l.length /\ a' = act 52 e [] /\ e 1 = .pointer (some ⟨sb, 0, none⟩) /\ e 6 = .slice ua l.length uc /\ e 7 = .pointer (some ⟨xb, 0, none⟩) /\ e 8 = .int .i64 ((j : Int) - 1) /\ e 18 = .slice (some ⟨b, o, none⟩) LL.length lc /\ e 19 = .int .i64 (LL.length : Nat) /\ e 20 = .int .i64 (k : Nat) /\ (∀ c x, c ≠ xb -> H5 c = some x -> H' c = some x) /\ H' xb = some (true, smO s.places (.slice da s.doors.length dc) (.slice ha s.hampers.length kc) (.slice na' n' nc')) /\ SlN H' (.slice na' n' nc') (woN s.noses (l.drop j)) /\ n' + (l.length - j) = s.noses.length) (n := l.length) ?_ ?_
  ·exact ⟨_, l.length, na, _, nc, by omega, Nat.le_refl _, rfl, e1, rfl, rfl, rfl, e18, e19, e20, fun _ _ _ hx => hx, vxb, by rw [List.drop_length]; exact hs5.nn, by omega⟩
  clear e1 e18 e19 e20
  rintro w a' H6 ⟨e, j, na', n', nc', rfl, hj, rfl, e1, e6, e7, e8, e18, e19, e20, hf6, vx6, hn6, hlen⟩
  have hu6 : SlI H6 (.slice ua l.length uc) l := hu5.move fun x p c fr hx => hf6 _ _ (fun e => by rw [e, vxb] at hx; simp at hx) hx
  by_cases hj0 : j = 0
  ·subst hj0
   (refine @unH _ (zA Ax1 ?_); (try clear hK K); intro K hK hc)
   have hsw : SmIn H6 (.slice da s.doors.length dc) (.slice ha s.hampers.length kc) (.slice na' n' nc') (woS s l) := ⟨hs5.dd.move fun x p c fr hx => ⟨p, hf6 _ _ (fun e => by rw [e, vxb] at hx; simp at hx) hx⟩, hs5.hh.move fun x p c fr hx => hf6 _ _ (fun e => by rw [e, vxb] at hx; simp at hx) hx, hn6⟩
   refine (Cyg H6 (woS s l) _ _ _ hsw (Dwu ok l)).runs.mono ?_
   have l06 : H.le H6 := fun c x hx => hf6 c x (fun e => by rw [e, f0x] at hx; cases hx) (l05 _ _ hx)
   have l36 : H3.le H6 := fun c x hx => hf6 c x (fun e => by rw [e, f3x] at hx; cases hx) (l35 _ _ hx)
   rintro _ H7 ⟨rfl, lH7⟩
   have l07 := Hp.le_trans l06 lH7
   have l37 := Hp.le_trans l36 lH7
   have hu7 := hu6.le lH7
   obtain ⟨ht1, ht2⟩ := (show ∀ q : Bool, decide (0 < Azi (woS s l)) = q -> (q = true -> wroF s = l) /\ (q = false -> ∀ l ∈ LL.take (k + 1), decide (0 < Azi (woS s l)) = false) from hst) _ rfl
   generalize decide (0 < Azi (woS s l)) = q at *
   clear hst l06 l36 lH7 hsw hu6 hu5 hs5 l05 l35 hf6 vx6 hn6
   cases q with
   | true =>
    replace ht1 := ht1 rfl
    replace ht1 : Aqk _ := ht1
    clear ht2
    (refine @unH _ (zU Ax1 ?_); (try clear hK K); intro K hK hc)
    (refine @unH _ ?_; refine zB results34 ?_)
    exact ⟨_, rfl, by rw [show wroF s = _ from ht1]; exact hu7, l07⟩
   | false =>
    replace ht2 := ht2 rfl
    replace ht2 : Aqk _ := ht2
    clear ht1
    (refine @unH _ (zU Ax1 ?_); (try clear hK K); intro K hK hc)
    exact ⟨_, by omega, _, k + 1, rfl, hlt, rfl, e1, e18, e19, rfl, l07, l37, ht2⟩
  ·obtain ⟨i, rfl⟩ : ∃ i, j = i + 1 := ⟨j - 1, by omega⟩
   have hil : i < l.length := by omega
   have hli := List.getElem?_eq_getElem hil
   obtain ⟨y0, y1⟩ := (show ∀ (k : Nat) (x : Int), l[k]? = some x -> _ from hlx) i _ hli
   have hwo : woN s.noses (l.drop i) = (woN s.noses (l.drop (i + 1))).take l[i].toNat ++ (woN s.noses (l.drop (i + 1))).drop (l[i].toNat + 1) := by
    rw [List.drop_eq_getElem_cons hil]
    rfl
   generalize l[i] = y at *
   obtain ⟨ub, uo, up, uca, ufr, rfl, hub, hux⟩ := hu6.get hli
   replace hwo : Aqk _ := hwo
   have hi1 : (((i + 1 : Nat) : Int) - 1) = (i : Nat) := by omega
   rw [hi1] at e8
   (refine @unH _ (zA Ax1 ?_); (try clear hK K); intro K hK hc)
   have hyn : y < n' := by omega
   obtain ⟨m, rfl⟩ : ∃ m : Nat, y = (m : Int) := ⟨y.toNat, by omega⟩
   have hmn : m + 1 <= n' := by omega
   obtain ⟨nb, no, rfl⟩ : ∃ nb no, na' = some ⟨nb, no, none⟩ := by
    have hl6 := hn6.len.1
    cases hw : (woN s.noses (l.drop (i + 1))).map Bj5 with
    | nil =>
     rw [List.map_eq_nil_iff] at hw
     rw [hw] at hl6
     simp only [List.length_nil] at hl6
     omega
    | cons r L =>
     obtain ⟨b, o, _, _, _, hh, _⟩ := SlG.get hn6 (i := 0) (r := r) (by rw [hw]; rfl)
     exact ⟨b, o, hh⟩
   have hcapn : m <= nc' /\ m + 1 <= nc' := by have := hn6.len; omega
   obtain ⟨hcp1, hcp2⟩ := hcapn
   have hA := fun HX (hX : H6.le HX) => (hn6.le hX).hi (k := m) (by omega)
   have hB := fun HX (hX : H6.le HX) => (hn6.le hX).lo (k := ((m : Int) + 1).toNat) (by omega)
   replace hA : Aqk _ := hA
   replace hB : Aqk _ := hB
   refine Axn (fun HX => H6.le HX) [12] (.free 0 (.take 1 (.free 2 (.free 3 (.free 4 (.free 5 (.take 6 (.free 7 (.free 8 (.free 9 (.one 10 (.free 11 (.one 12 .nil))))))))))))) (by kernel_rfl) (by kernel_rfl) (by decide) (by kernel_rfl) ?_; intro K hK
   have hS0 : H6.le H6 := Hp.le_refl _
   (refine @unH _ ?_; refine zI Ax1 ?_)
   (apply Axe rfl rfl rfl ‹_›; (focus (intro HX hHX; simp -implicitDefEqProofs (disch := first | omega | (simp only [qd] <;> omega)) only [xq, ↓xp, qc, Nat.reduceAdd, List.range, List.range.loop, fine, Nat.reduceEqDiff, ↓reduceIte, yielded, reduceCtorEq, Nat.reduceLT, Nat.reduceMul, Nat.reduceSub, one, Nat.reduceLeDiff, Aqg, Ax1, aq, ↓ap, qe0, qe1, qe2, *, -hK, Axa, hHX _ _ vx6] <;> (first | exact rfl | exact ⟨rfl, rfl⟩ | exact ⟨rfl, trivial⟩))); simp -implicitDefEqProofs (disch := first | omega | (simp only [qd] <;> omega)) only [Aq3, Aqm])
   (refine @unH _ ?_; refine zI Ax1 ?_)
   (refine @unH _ ?_; refine zI Ax1 ?_)
   (refine @unH _ ?_; refine zI Ax1 ?_)
   (refine @unH _ ?_; refine zI Ax1 ?_)
   (apply Axe rfl rfl rfl ‹_›; (focus (intro HX hHX; simp -implicitDefEqProofs (disch := first | omega | (simp only [qd] <;> omega)) only [xq, ↓xp, qc, Nat.reduceAdd, List.range, List.range.loop, fine, Nat.reduceEqDiff, ↓reduceIte, yielded, reduceCtorEq, Nat.reduceLT, Nat.reduceMul, Nat.reduceSub, one, Nat.reduceLeDiff, Aqg, Ax1, aq, ↓ap, qe0, qe1, qe2, *, -hK, Axa, hHX _ _ vx6] <;> (first | exact rfl | exact ⟨rfl, rfl⟩ | exact ⟨rfl, trivial⟩))); simp -implicitDefEqProofs (disch := first | omega | (simp only [qd] <;> omega)) only [Aq3, Aqm])
   (refine @unH _ ?_; refine zI Ax1 ?_)
   (refine @unH _ ?_; refine zI Ax1 ?_)
   (refine @unH _ ?_; refine zI Ax1 ?_)
   refine Aqv ?_
   (refine @unH _ ?_; refine zX Ax1 ?_)
   refine Bws (by decide) underlying24 sizeOf46 zeroValue46 rfl typeInfo46 (by decide) (by decide) ((show ∀ HX, H6.le HX -> _ from hA) H6 hS0) ((show ∀ HX, H6.le HX -> _ from hB) H6 hS0) (by omega) _ _ _ _ (fun v7 H7 hv7 l67 => ?_)
   obtain ⟨va, vn, vc, rfl⟩ := hv7.isSlice
   have hvl : Aqk _ := hv7.len.1
   have vx7 := l67 _ _ vx6
   (refine @unH _ ?_; refine zX Ax1 ?_)
   refine ⟨.inr fun _ => (by first | trivial | exact l67), ?_⟩
   (refine @unH _ ?_; refine zI Ax1 ?_)
   refine Aqv ?_
   (refine @unH _ ?_; refine zX Ax1 ?_)
   refine ⟨.inl (by decide), Axr (hK _ _ ?_)⟩
   clear hK K
   have hwm : SlN H7 (.slice va vn vc) (woN s.noses (l.drop i)) := by
    have h : woN s.noses (l.drop i) = _ := hwo
    unfold SlN
    rw [h, List.map_append, List.map_take, List.map_drop]
    exact hv7
   have hvn : vn + 1 = n' := by
    have h := (show vn = _ from hvl)
    rw [List.length_append, List.length_take, List.length_drop, List.length_map] at h
    have := hn6.len
    omega
   clear hvl hwo hv7 hA hB
   generalize hG : Hp.set H7 xb _ = H8
   have vx8 := Aqb hG
   have hf8 : ∀ c x, c ≠ xb -> H5 c = some x -> H8 c = some x := fun c x hc hx => Aqi hG (l67 _ _ (hf6 c x hc hx)) hc
   have hw8 : SlN H8 (.slice va vn vc) (woN s.noses (l.drop i)) := hwm.move fun x p c fr hx => ⟨p, Aqi hG hx (fun e => by rw [e, vx7] at hx; simp at hx)⟩
   clear hG hwm vx7 l67 vx6 hn6
   show wpX _ _ _ _ _ _ _
   (refine @unH _ (zA Ax1 ?_); (try clear hK K); intro K hK hc)
   exact ⟨_, Nat.lt_succ_self i, _, i, va, vn, vc, rfl, by omega, rfl, e1, e6, e7, rfl, e18, e19, e20, hf8, vx8, hw8, by omega⟩
 ·obtain rfl : k = LL.length := by omega
  rw [List.take_length] at hno
  have hr0 : wroF s = [] := by
   rw [show wroF s = _ from hwr, List.find?_eq_none.2 (fun l hl => by rw [hno l hl]; simp)]
   rfl
  replace hr0 : Aqk _ := hr0
  replace hno : Aqk _ := hno
  (refine @unH _ (zA Ax1 ?_); (try clear hK K); intro K hK hc)
  (refine @unH _ ?_; refine zB results34 ?_)
  exact ⟨_, rfl, by rw [show wroF s = _ from hr0]; exact nilS _, l04⟩
end Go.Proofs.YtnfnaehonkbknaaGreatDoor
end
