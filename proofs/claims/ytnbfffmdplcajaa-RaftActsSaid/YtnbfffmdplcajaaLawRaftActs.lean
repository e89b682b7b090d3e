/- The walk of RaftActs: it returns true. -/
import Derived.Test.YtnbfffmdplcajaaSz
import Derived.Test.YtnbfffmdplcajaaVars
import Derived.Test.YtnbfffmdplcajaaRfE
import Derived.Test.YtnbfffmdplcajaaTreeW7
namespace Go.Proofs.Ytnbfffmdplcajaa
open Go.Vc Go.Vc.Rf

section
variable {w0 w : World} {H M U : Mp}

set_option maxRecDepth 100000 in
set_option maxHeartbeats 16000000 in
theorem raftActs_runs {r : Raft} {cs : List Value} {da : Option Addr} {dn dc : Nat} {d : List UInt8} {id : Int} (hp : Hp w0 w H M) (hr : Ra H cs r) (ho : RaOk r) (hd : Bs H da dn dc d) (_ : 0 ≤ id) (_ : id ≤ 18446744073709551615) :
    Runs Try.prog 7 [.agg cs.toArray, .slice da dn dc, .int .u64 id] w fun v w' => v = .bool true ∧ Hp w0 w' H M := by
  have hr0 := hr
  obtain ⟨ss, ls, vs, ns, ms, ak, rs, rfl, hr⟩ := hr
  apply r7
  refine wp_newH hp fun p1 w1 H1 hp1 le0 f1 => ?_
  have hra0 := hr0.mono le0
  refine wp_call (begun_runs hp1) fun v2 w2 h2 => ?_
  obtain ⟨rfl, hp2⟩ := h2
  ((repeat apply Exists.intro); refine ⟨rfl, ?_⟩)
  refine wp_no rfl ?_
  (refine wp_load (hp2.loadH f1 (by simp)) ?_; (repeat apply Exists.intro); refine ⟨rfl, ?_⟩)
  refine wp_call (may25_runs hp2 hra0 ho) fun v3 w3 h3 => ?_
  obtain ⟨b, rfl, hmay, hp3⟩ := h3
  ((repeat apply Exists.intro); refine ⟨rfl, ?_⟩)
  refine wp_bif (fun _ => ⟨rfl, hp3.lessH le0⟩) fun h => ?_
  have may := hmay (by simpa using h)
  have fit := may.fit
  refine wp_bif (fun _ => ⟨rfl, hp3.lessH le0⟩) fun _ => ?_
  have hd1 := hd.mono le0
  have v := Vr.nil M
  have hp := hp3
  have le := Mp.le.refl H1
  have hra := hra0
  have hdd := hd1
  clear hp1 hp2 hp3 hr hra0 hd1
  -- timeout of the program
  (refine wp_load (hp.loadH (le _ _ f1) (by simp)) ?_; (repeat apply Exists.intro); refine ⟨rfl, ?_⟩)
  refine wp_call ((timeout_runs hp hra fit).mono fun v w' h => top_give h) fun vx wx hx => ?_
  obtain ⟨cs', cq', Hx, rfl, hrx, hqx, hpx, lex⟩ := hx
  have hR0 := hrx
  have hQ0 := hqx
  obtain ⟨y1, y2, y3, y4, y5, y6, y7, rfl, _⟩ := hrx
  obtain ⟨z1, z2, z3, rfl, _⟩ := hqx
  ((repeat apply Exists.intro); refine ⟨rfl, ?_⟩)
  refine wp_newV hpx v fun px wy My hpy vy => wp_newV hpy vy fun pz wz Mz hpz vz => ?_
  refine wp_storeV0 hpz vz 0 rfl (by rfl) (by simp [Value.oneCell']) fun wa Ma hpa va => ?_
  refine wp_storeV0 hpa va 1 rfl (by rfl) (by simp [Value.oneCell']) fun wb Mb hpb vb => ?_
  replace le := le.trans lex
  replace hra := hra.mono lex
  replace hdd := hdd.mono lex
  clear hp v hpa va hpx vz vy hpz hpy
  have hp := hpb
  have v : Vr M Mb [(_, _), (_, _)] := vb
  clear hpb vb
  clear lex
  -- timeout of the document
  (refine wp_load (hp.loadH (le _ _ f1) (by simp)) ?_; (repeat apply Exists.intro); refine ⟨rfl, ?_⟩)
  refine wp_call ((refTimeout_runs hp hra fit may).mono fun v w' h => top_give h) fun vx wx hx => ?_
  obtain ⟨cs', cq', Hx, rfl, hrx, hqx, hpx, lex⟩ := hx
  have hR1 := hrx
  have hQ1 := hqx
  obtain ⟨y1, y2, y3, y4, y5, y6, y7, rfl, _⟩ := hrx
  obtain ⟨z1, z2, z3, rfl, _⟩ := hqx
  ((repeat apply Exists.intro); refine ⟨rfl, ?_⟩)
  refine wp_newV hpx v fun px wy My hpy vy => wp_newV hpy vy fun pz wz Mz hpz vz => ?_
  refine wp_storeV0 hpz vz 2 rfl (by rfl) (by simp [Value.oneCell']) fun wa Ma hpa va => ?_
  refine wp_storeV0 hpa va 3 rfl (by rfl) (by simp [Value.oneCell']) fun wb Mb hpb vb => ?_
  replace le := le.trans lex
  replace hra := hra.mono lex
  replace hdd := hdd.mono lex
  clear hp v hpa va hpx vz vy hpz hpy
  have hp := hpb
  have v : Vr M Mb [(_, _), (_, _), (_, _), (_, _)] := vb
  clear hpb vb
  replace hR0 := hR0.mono lex
  replace hQ0 := hQ0.mono lex
  clear lex
  have sz := sz_timeout may
  (refine wp_load (hp.loadM (v.get 0 rfl) (by simp)) ?_; (repeat apply Exists.intro); refine ⟨rfl, ?_⟩)
  (refine wp_load (hp.loadM (v.get 2 rfl) (by simp)) ?_; (repeat apply Exists.intro); refine ⟨rfl, ?_⟩)
  refine wp_call (same_runs (r := (timeout r).r) hp hR0 hR1 (sz.cpy (by omega))) fun vx wx hx => ?_
  obtain ⟨rfl, hpx⟩ := hx
  ((repeat apply Exists.intro); refine ⟨rfl, ?_⟩)
  refine wp_no rfl ?_
  (refine wp_load (hpx.loadM (v.get 1 rfl) (by simp)) ?_; (repeat apply Exists.intro); refine ⟨rfl, ?_⟩)
  (refine wp_load (hpx.loadM (v.get 3 rfl) (by simp)) ?_; (repeat apply Exists.intro); refine ⟨rfl, ?_⟩)
  refine wp_call (sameOut (q := (timeout r).q) hpx hQ0 hQ1 (Nat.le_trans sz.save (by omega)) (Nat.le_trans sz.send (by omega)) (Nat.le_trans sz.ready (by omega)) fun m hm => Nat.le_trans (sz.ents m hm) (by omega)) fun vy wy hy => ?_
  obtain ⟨rfl, hpy⟩ := hy
  ((repeat apply Exists.intro); refine ⟨rfl, ?_⟩)
  refine wp_no rfl ?_
  clear hp hpx hR0 hQ0 hR1 hQ1 sz
  have hp := hpy
  clear hpy
  -- beat of the program
  (refine wp_load (hp.loadH (le _ _ f1) (by simp)) ?_; (repeat apply Exists.intro); refine ⟨rfl, ?_⟩)
  refine wp_call ((beat_runs hp hra fit).mono fun v w' h => top_give h) fun vx wx hx => ?_
  obtain ⟨cs', cq', Hx, rfl, hrx, hqx, hpx, lex⟩ := hx
  have hR0 := hrx
  have hQ0 := hqx
  obtain ⟨y1, y2, y3, y4, y5, y6, y7, rfl, _⟩ := hrx
  obtain ⟨z1, z2, z3, rfl, _⟩ := hqx
  ((repeat apply Exists.intro); refine ⟨rfl, ?_⟩)
  refine wp_storeV0 hpx v 0 rfl (by rfl) (by simp [Value.oneCell']) fun wa Ma hpa va => ?_
  refine wp_storeV0 hpa va 1 rfl (by rfl) (by simp [Value.oneCell']) fun wb Mb hpb vb => ?_
  replace le := le.trans lex
  replace hra := hra.mono lex
  replace hdd := hdd.mono lex
  clear hp v hpa va hpx
  have hp := hpb
  have v : Vr M Mb [(_, _), (_, _), (_, _), (_, _)] := vb
  clear hpb vb
  clear lex
  -- beat of the document
  (refine wp_load (hp.loadH (le _ _ f1) (by simp)) ?_; (repeat apply Exists.intro); refine ⟨rfl, ?_⟩)
  refine wp_call ((refBeat_runs hp hra fit fun _ => may).mono fun v w' h => top_give h) fun vx wx hx => ?_
  obtain ⟨cs', cq', Hx, rfl, hrx, hqx, hpx, lex⟩ := hx
  have hR1 := hrx
  have hQ1 := hqx
  obtain ⟨y1, y2, y3, y4, y5, y6, y7, rfl, _⟩ := hrx
  obtain ⟨z1, z2, z3, rfl, _⟩ := hqx
  ((repeat apply Exists.intro); refine ⟨rfl, ?_⟩)
  refine wp_storeV0 hpx v 2 rfl (by rfl) (by simp [Value.oneCell']) fun wa Ma hpa va => ?_
  refine wp_storeV0 hpa va 3 rfl (by rfl) (by simp [Value.oneCell']) fun wb Mb hpb vb => ?_
  replace le := le.trans lex
  replace hra := hra.mono lex
  replace hdd := hdd.mono lex
  clear hp v hpa va hpx
  have hp := hpb
  have v : Vr M Mb [(_, _), (_, _), (_, _), (_, _)] := vb
  clear hpb vb
  replace hR0 := hR0.mono lex
  replace hQ0 := hQ0.mono lex
  clear lex
  have sz := sz_beat may
  (refine wp_load (hp.loadM (v.get 0 rfl) (by simp)) ?_; (repeat apply Exists.intro); refine ⟨rfl, ?_⟩)
  (refine wp_load (hp.loadM (v.get 2 rfl) (by simp)) ?_; (repeat apply Exists.intro); refine ⟨rfl, ?_⟩)
  refine wp_call (same_runs (r := (beat r).r) hp hR0 hR1 (sz.cpy (by omega))) fun vx wx hx => ?_
  obtain ⟨rfl, hpx⟩ := hx
  ((repeat apply Exists.intro); refine ⟨rfl, ?_⟩)
  refine wp_no rfl ?_
  (refine wp_load (hpx.loadM (v.get 1 rfl) (by simp)) ?_; (repeat apply Exists.intro); refine ⟨rfl, ?_⟩)
  (refine wp_load (hpx.loadM (v.get 3 rfl) (by simp)) ?_; (repeat apply Exists.intro); refine ⟨rfl, ?_⟩)
  refine wp_call (sameOut (q := (beat r).q) hpx hQ0 hQ1 (Nat.le_trans sz.save (by omega)) (Nat.le_trans sz.send (by omega)) (Nat.le_trans sz.ready (by omega)) fun m hm => Nat.le_trans (sz.ents m hm) (by omega)) fun vy wy hy => ?_
  obtain ⟨rfl, hpy⟩ := hy
  ((repeat apply Exists.intro); refine ⟨rfl, ?_⟩)
  refine wp_no rfl ?_
  clear hp hpx hR0 hQ0 hR1 hQ1 sz
  have hp := hpy
  clear hpy
  -- propose of the program
  (refine wp_load (hp.loadH (le _ _ f1) (by simp)) ?_; (repeat apply Exists.intro); refine ⟨rfl, ?_⟩)
  refine wp_call ((propose_runs hp hra fit hdd).mono fun v w' h => top3_give h) fun vx wx hx => ?_
  obtain ⟨cs', cq', Hx, rfl, hrx, hqx, hpx, lex⟩ := hx
  have hR0 := hrx
  have hQ0 := hqx
  obtain ⟨y1, y2, y3, y4, y5, y6, y7, rfl, _⟩ := hrx
  obtain ⟨z1, z2, z3, rfl, _⟩ := hqx
  ((repeat apply Exists.intro); refine ⟨rfl, ?_⟩)
  refine wp_storeV0 hpx v 0 rfl (by rfl) (by simp [Value.oneCell']) fun wa Ma hpa va => ?_
  refine wp_storeV0 hpa va 1 rfl (by rfl) (by simp [Value.oneCell']) fun wb Mb hpb vb => ?_
  replace le := le.trans lex
  replace hra := hra.mono lex
  replace hdd := hdd.mono lex
  clear hp v hpa va hpx
  have hp := hpb
  have v : Vr M Mb [(_, _), (_, _), (_, _), (_, _)] := vb
  clear hpb vb
  clear lex
  -- propose of the document
  (refine wp_load (hp.loadH (le _ _ f1) (by simp)) ?_; (repeat apply Exists.intro); refine ⟨rfl, ?_⟩)
  refine wp_call ((refPropose_runs hp hra hdd fit may).mono fun v w' h => top3_give h) fun vx wx hx => ?_
  obtain ⟨cs', cq', Hx, rfl, hrx, hqx, hpx, lex⟩ := hx
  have hR1 := hrx
  have hQ1 := hqx
  obtain ⟨y1, y2, y3, y4, y5, y6, y7, rfl, _⟩ := hrx
  obtain ⟨z1, z2, z3, rfl, _⟩ := hqx
  ((repeat apply Exists.intro); refine ⟨rfl, ?_⟩)
  refine wp_storeV0 hpx v 2 rfl (by rfl) (by simp [Value.oneCell']) fun wa Ma hpa va => ?_
  refine wp_storeV0 hpa va 3 rfl (by rfl) (by simp [Value.oneCell']) fun wb Mb hpb vb => ?_
  replace le := le.trans lex
  replace hra := hra.mono lex
  replace hdd := hdd.mono lex
  clear hp v hpa va hpx
  have hp := hpb
  have v : Vr M Mb [(_, _), (_, _), (_, _), (_, _)] := vb
  clear hpb vb
  replace hR0 := hR0.mono lex
  replace hQ0 := hQ0.mono lex
  clear lex
  have sz := sz_propose (d := d) may
  refine wp_no (by cases (propose r d).2 <;> rfl) ?_
  (refine wp_load (hp.loadM (v.get 0 rfl) (by simp)) ?_; (repeat apply Exists.intro); refine ⟨rfl, ?_⟩)
  (refine wp_load (hp.loadM (v.get 2 rfl) (by simp)) ?_; (repeat apply Exists.intro); refine ⟨rfl, ?_⟩)
  refine wp_call (same_runs (r := ((propose r d).1).r) hp hR0 hR1 (sz.cpy (by omega))) fun vx wx hx => ?_
  obtain ⟨rfl, hpx⟩ := hx
  ((repeat apply Exists.intro); refine ⟨rfl, ?_⟩)
  refine wp_no rfl ?_
  (refine wp_load (hpx.loadM (v.get 1 rfl) (by simp)) ?_; (repeat apply Exists.intro); refine ⟨rfl, ?_⟩)
  (refine wp_load (hpx.loadM (v.get 3 rfl) (by simp)) ?_; (repeat apply Exists.intro); refine ⟨rfl, ?_⟩)
  refine wp_call (sameOut (q := ((propose r d).1).q) hpx hQ0 hQ1 (Nat.le_trans sz.save (by omega)) (Nat.le_trans sz.send (by omega)) (Nat.le_trans sz.ready (by omega)) fun m hm => Nat.le_trans (sz.ents m hm) (by omega)) fun vy wy hy => ?_
  obtain ⟨rfl, hpy⟩ := hy
  ((repeat apply Exists.intro); refine ⟨rfl, ?_⟩)
  refine wp_no rfl ?_
  clear hp hpx hR0 hQ0 hR1 hQ1 sz
  have hp := hpy
  clear hpy
  -- ask of the program
  (refine wp_load (hp.loadH (le _ _ f1) (by simp)) ?_; (repeat apply Exists.intro); refine ⟨rfl, ?_⟩)
  refine wp_call ((ask_runs hp hra fit).mono fun v w' h => top3_give h) fun vx wx hx => ?_
  obtain ⟨cs', cq', Hx, rfl, hrx, hqx, hpx, lex⟩ := hx
  have hR0 := hrx
  have hQ0 := hqx
  obtain ⟨y1, y2, y3, y4, y5, y6, y7, rfl, _⟩ := hrx
  obtain ⟨z1, z2, z3, rfl, _⟩ := hqx
  ((repeat apply Exists.intro); refine ⟨rfl, ?_⟩)
  refine wp_storeV0 hpx v 0 rfl (by rfl) (by simp [Value.oneCell']) fun wa Ma hpa va => ?_
  refine wp_storeV0 hpa va 1 rfl (by rfl) (by simp [Value.oneCell']) fun wb Mb hpb vb => ?_
  replace le := le.trans lex
  replace hra := hra.mono lex
  replace hdd := hdd.mono lex
  clear hp v hpa va hpx
  have hp := hpb
  have v : Vr M Mb [(_, _), (_, _), (_, _), (_, _)] := vb
  clear hpb vb
  clear lex
  -- ask of the document
  (refine wp_load (hp.loadH (le _ _ f1) (by simp)) ?_; (repeat apply Exists.intro); refine ⟨rfl, ?_⟩)
  refine wp_call ((refAsk_runs hp hra fit may).mono fun v w' h => top3_give h) fun vx wx hx => ?_
  obtain ⟨cs', cq', Hx, rfl, hrx, hqx, hpx, lex⟩ := hx
  have hR1 := hrx
  have hQ1 := hqx
  obtain ⟨y1, y2, y3, y4, y5, y6, y7, rfl, _⟩ := hrx
  obtain ⟨z1, z2, z3, rfl, _⟩ := hqx
  ((repeat apply Exists.intro); refine ⟨rfl, ?_⟩)
  refine wp_storeV0 hpx v 2 rfl (by rfl) (by simp [Value.oneCell']) fun wa Ma hpa va => ?_
  refine wp_storeV0 hpa va 3 rfl (by rfl) (by simp [Value.oneCell']) fun wb Mb hpb vb => ?_
  replace le := le.trans lex
  replace hra := hra.mono lex
  replace hdd := hdd.mono lex
  clear hp v hpa va hpx
  have hp := hpb
  have v : Vr M Mb [(_, _), (_, _), (_, _), (_, _)] := vb
  clear hpb vb
  replace hR0 := hR0.mono lex
  replace hQ0 := hQ0.mono lex
  clear lex
  have sz := sz_ask (id := id) may
  refine wp_no (by cases (Rf.ask r id).2 <;> rfl) ?_
  (refine wp_load (hp.loadM (v.get 0 rfl) (by simp)) ?_; (repeat apply Exists.intro); refine ⟨rfl, ?_⟩)
  (refine wp_load (hp.loadM (v.get 2 rfl) (by simp)) ?_; (repeat apply Exists.intro); refine ⟨rfl, ?_⟩)
  refine wp_call (same_runs (r := ((Rf.ask r id).1).r) hp hR0 hR1 (sz.cpy (by omega))) fun vx wx hx => ?_
  obtain ⟨rfl, hpx⟩ := hx
  ((repeat apply Exists.intro); refine ⟨rfl, ?_⟩)
  refine wp_no rfl ?_
  (refine wp_load (hpx.loadM (v.get 1 rfl) (by simp)) ?_; (repeat apply Exists.intro); refine ⟨rfl, ?_⟩)
  (refine wp_load (hpx.loadM (v.get 3 rfl) (by simp)) ?_; (repeat apply Exists.intro); refine ⟨rfl, ?_⟩)
  refine wp_call (sameOut (q := ((Rf.ask r id).1).q) hpx hQ0 hQ1 (Nat.le_trans sz.save (by omega)) (Nat.le_trans sz.send (by omega)) (Nat.le_trans sz.ready (by omega)) fun m hm => Nat.le_trans (sz.ents m hm) (by omega)) fun vy wy hy => ?_
  obtain ⟨rfl, hpy⟩ := hy
  ((repeat apply Exists.intro); refine ⟨rfl, ?_⟩)
  refine wp_no rfl ?_
  clear hp hpx hR0 hQ0 hR1 hQ1 sz
  have hp := hpy
  clear hpy
  -- compact of the program
  (refine wp_load (hp.loadH (le _ _ f1) (by simp)) ?_; (repeat apply Exists.intro); refine ⟨rfl, ?_⟩)
  refine wp_call ((compact_runs hp hra fit hdd).mono fun v w' h => top_give h) fun vx wx hx => ?_
  obtain ⟨cs', cq', Hx, rfl, hrx, hqx, hpx, lex⟩ := hx
  have hR0 := hrx
  have hQ0 := hqx
  obtain ⟨y1, y2, y3, y4, y5, y6, y7, rfl, _⟩ := hrx
  obtain ⟨z1, z2, z3, rfl, _⟩ := hqx
  ((repeat apply Exists.intro); refine ⟨rfl, ?_⟩)
  refine wp_storeV0 hpx v 0 rfl (by rfl) (by simp [Value.oneCell']) fun wa Ma hpa va => ?_
  refine wp_storeV0 hpa va 1 rfl (by rfl) (by simp [Value.oneCell']) fun wb Mb hpb vb => ?_
  replace le := le.trans lex
  replace hra := hra.mono lex
  replace hdd := hdd.mono lex
  clear hp v hpa va hpx
  have hp := hpb
  have v : Vr M Mb [(_, _), (_, _), (_, _), (_, _)] := vb
  clear hpb vb
  clear lex
  -- compact of the document
  (refine wp_load (hp.loadH (le _ _ f1) (by simp)) ?_; (repeat apply Exists.intro); refine ⟨rfl, ?_⟩)
  refine wp_call ((refCompact_runs hp hra hdd fit may).mono fun v w' h => top_give h) fun vx wx hx => ?_
  obtain ⟨cs', cq', Hx, rfl, hrx, hqx, hpx, lex⟩ := hx
  have hR1 := hrx
  have hQ1 := hqx
  obtain ⟨y1, y2, y3, y4, y5, y6, y7, rfl, _⟩ := hrx
  obtain ⟨z1, z2, z3, rfl, _⟩ := hqx
  ((repeat apply Exists.intro); refine ⟨rfl, ?_⟩)
  refine wp_storeV0 hpx v 2 rfl (by rfl) (by simp [Value.oneCell']) fun wa Ma hpa va => ?_
  refine wp_storeV0 hpa va 3 rfl (by rfl) (by simp [Value.oneCell']) fun wb Mb hpb vb => ?_
  replace le := le.trans lex
  replace hra := hra.mono lex
  replace hdd := hdd.mono lex
  clear hp v hpa va hpx
  have hp := hpb
  have v : Vr M Mb [(_, _), (_, _), (_, _), (_, _)] := vb
  clear hpb vb
  replace hR0 := hR0.mono lex
  replace hQ0 := hQ0.mono lex
  clear lex
  have sz := sz_compact (d := d) may
  (refine wp_load (hp.loadM (v.get 0 rfl) (by simp)) ?_; (repeat apply Exists.intro); refine ⟨rfl, ?_⟩)
  (refine wp_load (hp.loadM (v.get 2 rfl) (by simp)) ?_; (repeat apply Exists.intro); refine ⟨rfl, ?_⟩)
  refine wp_call (same_runs (r := (compact r d).r) hp hR0 hR1 (sz.cpy (by omega))) fun vx wx hx => ?_
  obtain ⟨rfl, hpx⟩ := hx
  ((repeat apply Exists.intro); refine ⟨rfl, ?_⟩)
  refine wp_yes rfl ?_
  (refine wp_load (hpx.loadM (v.get 1 rfl) (by simp)) ?_; (repeat apply Exists.intro); refine ⟨rfl, ?_⟩)
  (refine wp_load (hpx.loadM (v.get 3 rfl) (by simp)) ?_; (repeat apply Exists.intro); refine ⟨rfl, ?_⟩)
  refine wp_call (sameOut (q := (compact r d).q) hpx hQ0 hQ1 (Nat.le_trans sz.save (by omega)) (Nat.le_trans sz.send (by omega)) (Nat.le_trans sz.ready (by omega)) fun m hm => Nat.le_trans (sz.ents m hm) (by omega)) fun vy wy hy => ?_
  obtain ⟨rfl, hpy⟩ := hy
  ((repeat apply Exists.intro); refine ⟨rfl, ?_⟩)
  exact ⟨rfl, (v.done hpy).lessH (le0.trans le)⟩
end
end Go.Proofs.Ytnbfffmdplcajaa
