/- The walk of RaftGot: it returns true. -/
import Derived.Test.YtnbfffmdplcajaaSz
import Derived.Test.YtnbfffmdplcajaaVars
import Derived.Test.YtnbfffmdplcajaaPre
import Derived.Test.YtnbfffmdplcajaaRfI
import Derived.Test.YtnbfffmdplcajaaTreeW9
namespace Go.Proofs.Ytnbfffmdplcajaa
open Go.Vc Go.Vc.Rf

section
variable {w0 w : World} {H M U : Mp}

set_option maxRecDepth 100000 in
set_option maxHeartbeats 8000000 in
theorem raftGot_runs {r : Raft} {m : Msg} {cs cm : List Value} (hp : Hp w0 w H M) (hr : Ra H cs r) (ho : RaOk r) (hm : Ms H cm m) (mo : m.Ok) :
    Runs Try.prog 9 [.agg cs.toArray, .agg cm.toArray] w fun v w' => v = .bool true ∧ Hp w0 w' H M := by
  have hm0 := hm
  obtain ⟨ss, ls, vs, ns, ms, ak, rs, rfl, hr⟩ := hr
  obtain ⟨a1, n1, c1, a2, n2, c2, rfl, he, hs⟩ := hm
  apply r9
  refine pre_wp hp hr ho hm0 mo rfl fun p1 p2 w1 H1 hp1 le0 f1 f2 may lm hra hma => ?_
  have fit := may.fit
  have sz := sz_got (m := m) may lm
  (refine wp_load (hp1.loadH f1 (by simp [cells17])) ?_; (repeat apply Exists.intro); refine ⟨rfl, ?_⟩)
  (refine wp_load (hp1.loadH f2 (by simp)) ?_; (repeat apply Exists.intro); refine ⟨rfl, ?_⟩)
  refine wp_call ((got_runs hp1 hra hma fit lm).mono fun v w' h => top_give h) fun v3 w3 h3 => ?_
  obtain ⟨cs3, cq3, H3, rfl, hR0, hQ0, hp3, le3⟩ := h3
  have hR := hR0
  have hQ := hQ0
  obtain ⟨y1, y2, y3, y4, y5, y6, y7, rfl, _⟩ := hR
  obtain ⟨z1, z2, z3, rfl, _⟩ := hQ
  ((repeat apply Exists.intro); refine ⟨rfl, ?_⟩)
  refine wp_newV hp3 (Vr.nil M) fun pa wa Ma hpa va => wp_newV hpa va fun pb wb Mb hpb vb => ?_
  refine wp_storeV0 hpb vb 0 rfl (by rfl) (by simp [Value.oneCell']) fun wc Mc hpc vc => ?_
  refine wp_storeV0 hpc vc 1 rfl (by rfl) (by simp [Value.oneCell']) fun wd Md hpd vd => ?_
  have v : Vr M Md [(_, _), (_, _)] := vd
  clear hpa va hpb vb hpc vc vd hp3
  (refine wp_load (hpd.loadH (le3 _ _ f1) (by simp [cells17])) ?_; (repeat apply Exists.intro); refine ⟨rfl, ?_⟩)
  (refine wp_load (hpd.loadH (le3 _ _ f2) (by simp)) ?_; (repeat apply Exists.intro); refine ⟨rfl, ?_⟩)
  refine wp_call ((refGot_runs hpd (hra.mono le3) (hma.mono le3) fit may lm).mono fun v w' h => top_give h) fun v4 w4 h4 => ?_
  obtain ⟨cs4, cq4, H4, rfl, hR1, hQ1, hp4, le4⟩ := h4
  have hR := hR1
  have hQ := hQ1
  obtain ⟨x1, x2, x3, x4, x5, x6, x7, rfl, _⟩ := hR
  obtain ⟨u1, u2, u3, rfl, _⟩ := hQ
  ((repeat apply Exists.intro); refine ⟨rfl, ?_⟩)
  refine wp_newV hp4 v fun pc wa Ma hpa va => wp_newV hpa va fun pd wb Mb hpb vb => ?_
  refine wp_storeV0 hpb vb 2 rfl (by rfl) (by simp [Value.oneCell']) fun wc Mc hpc vc => ?_
  refine wp_storeV0 hpc vc 3 rfl (by rfl) (by simp [Value.oneCell']) fun wd Md hpe vd => ?_
  have v5 : Vr M Md [(_, _), (_, _), (_, _), (_, _)] := vd
  clear hpa va hpb vb hpc vc vd hpd v hp4
  (refine wp_load (hpe.loadM (v5.get 0 rfl) (by simp)) ?_; (repeat apply Exists.intro); refine ⟨rfl, ?_⟩)
  (refine wp_load (hpe.loadM (v5.get 2 rfl) (by simp)) ?_; (repeat apply Exists.intro); refine ⟨rfl, ?_⟩)
  refine wp_call (same_runs (r := (got r m).r) hpe (hR0.mono le4) hR1 (sz.cpy (by omega))) fun vx wx hx => ?_
  obtain ⟨rfl, hpx⟩ := hx
  ((repeat apply Exists.intro); refine ⟨rfl, ?_⟩)
  refine wp_yes rfl ?_
  (refine wp_load (hpx.loadM (v5.get 1 rfl) (by simp)) ?_; (repeat apply Exists.intro); refine ⟨rfl, ?_⟩)
  (refine wp_load (hpx.loadM (v5.get 3 rfl) (by simp)) ?_; (repeat apply Exists.intro); refine ⟨rfl, ?_⟩)
  refine wp_call (sameOut (q := (got r m).q) hpx (hQ0.mono le4) hQ1 (Nat.le_trans sz.save (by omega)) (Nat.le_trans sz.send (by omega)) (Nat.le_trans sz.ready (by omega)) fun m hm => Nat.le_trans (sz.ents m hm) (by omega)) fun vy wy hy => ?_
  obtain ⟨rfl, hpy⟩ := hy
  ((repeat apply Exists.intro); refine ⟨rfl, ?_⟩)
  exact ⟨rfl, (v5.done hpy).lessH ((le0.trans le3).trans le4)⟩
end
end Go.Proofs.Ytnbfffmdplcajaa
