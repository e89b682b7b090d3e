/- The walk of RaftForms: it returns true. -/
import Derived.Test.YtnbfffmdplcajaaPre
import Derived.Test.YtnbfffmdplcajaaTreeW21
namespace Go.Proofs.Ytnbfffmdplcajaa
open Go.Vc Go.Vc.Rf

def mB : Msg := { Msg.none with kind := 2, frm := 1, dest := 2, term := 1 }
def mC : Msg := { Msg.none with kind := 2, frm := 3, dest := 2, term := 1, ok := true }
def mD : Msg := { Msg.none with kind := 4, frm := 1, dest := 2, term := 1, ok := true, index := 1, round := 1 }
def mF : Msg := { Msg.none with kind := 4, frm := 3, dest := 2, term := 1, ok := true, index := 1, round := 1 }
def mG : Msg := { Msg.none with kind := 4, frm := 3, dest := 2, term := 1, ok := true, index := 1, round := 2 }
def mH : Msg := { Msg.none with kind := 1, frm := 3, dest := 2, term := 2, index := 0 }
def FA : Sp := timeout (newR 2 3 k0)
def FB : Sp := got FA.r mB
def FC : Sp := got FB.r mC
def FX : Sp × Bool := Rf.ask FC.r 5
def FD : Sp := got FC.r mD
def FE : Sp × Bool := Rf.ask FD.r 5
def FF : Sp := got FE.1.r mF
def FG : Sp := got FF.r mG
def FH : Sp := got FG.r mH

theorem fit_FA : Fit FA.r := ⟨⟨by decide, by decide, by decide, by decide, by decide, by decide, by decide, by decide, by decide, by decide, by decide, by decide, by decide, by decide⟩, by decide, by decide, by decide, by decide, by decide, by decide⟩
theorem fit_FB : Fit FB.r := ⟨⟨by decide, by decide, by decide, by decide, by decide, by decide, by decide, by decide, by decide, by decide, by decide, by decide, by decide, by decide⟩, by decide, by decide, by decide, by decide, by decide, by decide⟩
theorem fit_FC : Fit FC.r := ⟨⟨by decide, by decide, by decide, by decide, by decide, by decide, by decide, by decide, by decide, by decide, by decide, by decide, by decide, by decide⟩, by decide, by decide, by decide, by decide, by decide, by decide⟩
theorem fit_FD : Fit FD.r := ⟨⟨by decide, by decide, by decide, by decide, by decide, by decide, by decide, by decide, by decide, by decide, by decide, by decide, by decide, by decide⟩, by decide, by decide, by decide, by decide, by decide, by decide⟩
theorem fit_FE : Fit FE.1.r := ⟨⟨by decide, by decide, by decide, by decide, by decide, by decide, by decide, by decide, by decide, by decide, by decide, by decide, by decide, by decide⟩, by decide, by decide, by decide, by decide, by decide, by decide⟩
theorem fit_FF : Fit FF.r := ⟨⟨by decide, by decide, by decide, by decide, by decide, by decide, by decide, by decide, by decide, by decide, by decide, by decide, by decide, by decide⟩, by decide, by decide, by decide, by decide, by decide, by decide⟩
theorem fit_FG : Fit FG.r := ⟨⟨by decide, by decide, by decide, by decide, by decide, by decide, by decide, by decide, by decide, by decide, by decide, by decide, by decide, by decide⟩, by decide, by decide, by decide, by decide, by decide, by decide⟩
theorem lm_mB : Lm mB := ⟨by decide, by decide, by decide, by decide, by decide, by decide, by decide, by decide, by decide, by decide, by decide⟩
theorem lm_mC : Lm mC := ⟨by decide, by decide, by decide, by decide, by decide, by decide, by decide, by decide, by decide, by decide, by decide⟩
theorem lm_mD : Lm mD := ⟨by decide, by decide, by decide, by decide, by decide, by decide, by decide, by decide, by decide, by decide, by decide⟩
theorem lm_mF : Lm mF := ⟨by decide, by decide, by decide, by decide, by decide, by decide, by decide, by decide, by decide, by decide, by decide⟩
theorem lm_mG : Lm mG := ⟨by decide, by decide, by decide, by decide, by decide, by decide, by decide, by decide, by decide, by decide, by decide⟩
theorem lm_mH : Lm mH := ⟨by decide, by decide, by decide, by decide, by decide, by decide, by decide, by decide, by decide, by decide, by decide⟩

section
variable {w0 w : World} {H M U : Mp}

/-- A letter among others: its cells, asked for. -/
theorem msgAt {a : Option Addr} {n c : Nat} {l : List Msg} (hs : Sl H (Ms H) a n c l) (hp : Hp w0 w H M) (i : Nat) (hi : i < l.length) : ∃ b o, a = some ⟨b, o, none⟩ ∧
    (∀ {w' : World}, Hp w0 w' H M → cellsAt w' ⟨b, o + i * 21, none⟩ 0 1 = some [.int .i64 l[i].kind]) ∧ (∀ {w' : World}, Hp w0 w' H M → cellsAt w' ⟨b, o + i * 21 + 2, none⟩ 0 1 = some [.int .i64 l[i].dest]) ∧
    (∃ a' n' c', n' = l[i].entries.length ∧ ∀ {w' : World}, Hp w0 w' H M → cellsAt w' ⟨b, o + i * 21 + 6, none⟩ 0 1 = some [.slice a' n' c']) ∧
    (∀ {w' : World}, Hp w0 w' H M → cellsAt w' ⟨b, o + i * 21 + 8, none⟩ 0 1 = some [.int .u64 l[i].round]) ∧ (∀ {w' : World}, Hp w0 w' H M → cellsAt w' ⟨b, o + i * 21 + 9, none⟩ 0 1 = some [.bool l[i].ok]) := by
  obtain ⟨b, o, cs, ha, hcs, hat⟩ := Sl.elem Ms.len hs hp (List.getElem?_eq_getElem hi) (by omega)
  obtain ⟨a', n', c', _, _, _, rfl, he, _⟩ := hcs
  refine ⟨b, o, ha, fun h => by simpa using hat _ _ h 0 1 (by omega), fun h => hat _ _ h 2 1 (by omega), ⟨a', n', c', he.1, fun h => hat _ _ h 6 1 (by omega)⟩, fun h => hat _ _ h 8 1 (by omega), fun h => hat _ _ h 9 1 (by omega)⟩

set_option maxRecDepth 100000 in
set_option maxHeartbeats 8000000 in
theorem raftForms_runs (hp : Hp w0 w H M) : Runs Try.prog 21 [] w fun v w' => v = .bool true ∧ Hp w0 w' H M := by
  apply r21
  refine wp_call (begun_runs hp) fun v1 w1 h1 => ?_
  obtain ⟨rfl, hp1⟩ := h1
  ((repeat apply Exists.intro); refine ⟨rfl, ?_⟩)
  refine wp_bif (fun h => by simp at h) fun _ => ?_
  refine wp_call (new_runs hp1 kp0 (by decide)) fun v2 w2 h2 => ?_
  obtain ⟨cs2, H2, rfl, hr2, hp2, hleI⟩ := h2
  have hr2' := hr2
  obtain ⟨x1, x2, x3, x4, x5, x6, x7, rfl, hx⟩ := hr2
  ((repeat apply Exists.intro); refine ⟨rfl, ?_⟩)
  refine wp_call ((timeout_runs hp2 hr2' (fit_new (by decide) (by decide) (by decide) (by decide) (by decide) (by decide))).mono fun v w' h => top_give h) fun v wA0 h0 => ?_
  obtain ⟨csA, cqA, HA0, rfl, hrA, hqA, hpA0, hleA0⟩ := h0
  have hrA' := hrA
  obtain ⟨yA1, yA2, yA3, yA4, yA5, yA6, yA7, rfl, hyA⟩ := hrA
  obtain ⟨zA1, zA2, zA3, rfl, hvA, hsA, hdA⟩ := hqA
  have hrA := hrA'
  clear hrA'
  have nvA := hvA.1
  have nsA := hsA.1
  have ndA := hdA.1
  ((repeat apply Exists.intro); refine ⟨rfl, ?_⟩)
  refine wp_keep2 hpA0 (by rfl) (by rfl) (by simp [Value.oneCell']) (by simp [Value.oneCell']) fun pA qA wA HA hpA hleA fA gA => ?_
  have lxA := hleA0.trans hleA
  replace hrA := hrA.mono hleA
  replace hsA := hsA.mono hleA (Ms.mono hleA)
  replace hyA := hyA.mono hleA
  replace hdA := hdA.mono hleA fun _ _ h => h
  (refine wp_load (hpA.loadH gA (by simp)) ?_; (repeat apply Exists.intro); refine ⟨rfl, ?_⟩)
  rw [show (timeout (newR 2 3 k0)).q.send.length = 2 by decide] at nsA
  refine wp_bif (fun h => by rw [nsA] at h; simp at h) fun _ => ?_
  obtain ⟨b0, o0, ha0, k0A, d0A, _, _, _⟩ := msgAt hsA hpA 0 (by decide)
  obtain ⟨b1, o1, ha1, _, d1A, _, _, _⟩ := msgAt hsA hpA 1 (by decide)
  rw [ha0] at ha1
  cases ha1
  (refine wp_load (hpA.loadH gA (by simp)) ?_; (repeat apply Exists.intro); refine ⟨rfl, ?_⟩)
  refine ⟨_, ha0, ⟨by omega, by omega⟩, ?_⟩
  simp only [add_mk, Nat.zero_mul, Nat.one_mul, Nat.add_zero] at k0A d0A d1A
  simp only [add_mk]
  (refine wp_load (d0A hpA) ?_; (repeat apply Exists.intro); refine ⟨rfl, ?_⟩)
  refine wp_bif (fun h => absurd h (by decide)) fun _ => ?_
  (refine wp_load (hpA.loadH gA (by simp)) ?_; (repeat apply Exists.intro); refine ⟨rfl, ?_⟩)
  refine ⟨_, ha0, ⟨by omega, by omega⟩, ?_⟩
  simp only [add_mk]
  (refine wp_load (d1A hpA) ?_; (repeat apply Exists.intro); refine ⟨rfl, ?_⟩)
  refine wp_bif (fun h => absurd h (by decide)) fun _ => ?_
  (refine wp_load (hpA.loadH gA (by simp)) ?_; (repeat apply Exists.intro); refine ⟨rfl, ?_⟩)
  refine ⟨_, ha0, ⟨by omega, by omega⟩, ?_⟩
  (refine wp_load (k0A hpA) ?_; (repeat apply Exists.intro); refine ⟨rfl, ?_⟩)
  refine wp_bif (fun h => absurd h (by decide)) fun _ => ?_
  (refine wp_load (hpA.loadH fA (by simp)) ?_; (repeat apply Exists.intro); refine ⟨rfl, ?_⟩)
  refine wp_bif (fun h => absurd h (by decide)) fun _ => ?_
  (refine wp_load (hpA.loadH fA (by simp)) ?_; (repeat apply Exists.intro); refine ⟨rfl, ?_⟩)
  refine wp_call ((got_runs (m := mB) hpA hrA (show Ms _ _ mB from ⟨none, 0, 0, none, 0, 0, rfl, Sl.nil _ _, Bs.nil _⟩) fit_FA lm_mB).mono fun v w' h => top_give h) fun v wB0 h0 => ?_
  obtain ⟨csB, cqB, HB0, rfl, hrB, hqB, hpB0, hleB0⟩ := h0
  have hrB' := hrB
  obtain ⟨yB1, yB2, yB3, yB4, yB5, yB6, yB7, rfl, hyB⟩ := hrB
  obtain ⟨zB1, zB2, zB3, rfl, hvB, hsB, hdB⟩ := hqB
  have hrB := hrB'
  clear hrB'
  have nvB := hvB.1
  have nsB := hsB.1
  have ndB := hdB.1
  ((repeat apply Exists.intro); refine ⟨rfl, ?_⟩)
  refine wp_keep2 hpB0 (by rfl) (by rfl) (by simp [Value.oneCell']) (by simp [Value.oneCell']) fun pB qB wB HB hpB hleB fB gB => ?_
  have lxB := hleB0.trans hleB
  replace fA := lxB _ _ fA
  replace gA := lxB _ _ gA
  replace hrA := hrA.mono lxB
  replace hsA := hsA.mono lxB (Ms.mono lxB)
  replace hyA := hyA.mono lxB
  replace hrB := hrB.mono hleB
  replace hsB := hsB.mono hleB (Ms.mono hleB)
  replace hyB := hyB.mono hleB
  replace hdB := hdB.mono hleB fun _ _ h => h
  (refine wp_load (hpB.loadH fB (by simp)) ?_; (repeat apply Exists.intro); refine ⟨rfl, ?_⟩)
  refine wp_call ((got_runs (m := mC) hpB hrB (show Ms _ _ mC from ⟨none, 0, 0, none, 0, 0, rfl, Sl.nil _ _, Bs.nil _⟩) fit_FB lm_mC).mono fun v w' h => top_give h) fun v wC0 h0 => ?_
  obtain ⟨csC, cqC, HC0, rfl, hrC, hqC, hpC0, hleC0⟩ := h0
  have hrC' := hrC
  obtain ⟨yC1, yC2, yC3, yC4, yC5, yC6, yC7, rfl, hyC⟩ := hrC
  obtain ⟨zC1, zC2, zC3, rfl, hvC, hsC, hdC⟩ := hqC
  have hrC := hrC'
  clear hrC'
  have nvC := hvC.1
  have nsC := hsC.1
  have ndC := hdC.1
  ((repeat apply Exists.intro); refine ⟨rfl, ?_⟩)
  refine wp_keep2 hpC0 (by rfl) (by rfl) (by simp [Value.oneCell']) (by simp [Value.oneCell']) fun pC qC wC HC hpC hleC fC gC => ?_
  have lxC := hleC0.trans hleC
  replace fA := lxC _ _ fA
  replace gA := lxC _ _ gA
  replace hrA := hrA.mono lxC
  replace hsA := hsA.mono lxC (Ms.mono lxC)
  replace hyA := hyA.mono lxC
  replace fB := lxC _ _ fB
  replace gB := lxC _ _ gB
  replace hrB := hrB.mono lxC
  replace hsB := hsB.mono lxC (Ms.mono lxC)
  replace hyB := hyB.mono lxC
  replace hrC := hrC.mono hleC
  replace hsC := hsC.mono hleC (Ms.mono hleC)
  replace hyC := hyC.mono hleC
  replace hdC := hdC.mono hleC fun _ _ h => h
  (refine wp_load (hpC.loadH fB (by simp)) ?_; (repeat apply Exists.intro); refine ⟨rfl, ?_⟩)
  refine wp_bif (fun h => absurd h (by decide)) fun _ => ?_
  (refine wp_load (hpC.loadH fC (by simp)) ?_; (repeat apply Exists.intro); refine ⟨rfl, ?_⟩)
  refine wp_bif (fun h => absurd h (by decide)) fun _ => ?_
  change zC2.n = FC.q.send.length at nsC
  change zC1.n = FC.q.save.length at nvC
  (refine wp_load (hpC.loadH gC (by simp)) ?_; (repeat apply Exists.intro); refine ⟨rfl, ?_⟩)
  rw [show FC.q.send.length = 2 by decide] at nsC
  refine wp_bif (fun h => by rw [nsC] at h; simp at h) fun _ => ?_
  (refine wp_load (hpC.loadH gC (by simp)) ?_; (repeat apply Exists.intro); refine ⟨rfl, ?_⟩)
  rw [show FC.q.save.length = 1 by decide] at nvC
  refine wp_bif (fun h => by rw [nvC] at h; simp at h) fun _ => ?_
  obtain ⟨b2, o2, ha2, k0C, _, ⟨ea, en, ec, een, e0C⟩, r0C, _⟩ := msgAt hsC hpC 0 (show 0 < FC.q.send.length by decide)
  simp only [Nat.zero_mul, Nat.add_zero] at k0C e0C r0C
  (refine wp_load (hpC.loadH gC (by simp)) ?_; (repeat apply Exists.intro); refine ⟨rfl, ?_⟩)
  refine ⟨_, ha2, ⟨by omega, by omega⟩, ?_⟩
  (refine wp_load (k0C hpC) ?_; (repeat apply Exists.intro); refine ⟨rfl, ?_⟩)
  refine wp_bif (fun h => absurd h (by decide)) fun _ => ?_
  (refine wp_load (hpC.loadH gC (by simp)) ?_; (repeat apply Exists.intro); refine ⟨rfl, ?_⟩)
  refine ⟨_, ha2, ⟨by omega, by omega⟩, ?_⟩
  simp only [add_mk]
  (refine wp_load (e0C hpC) ?_; (repeat apply Exists.intro); refine ⟨rfl, ?_⟩)
  rw [een]
  refine wp_bif (fun h => absurd h (by decide)) fun _ => ?_
  (refine wp_load (hpC.loadH gC (by simp)) ?_; (repeat apply Exists.intro); refine ⟨rfl, ?_⟩)
  refine ⟨_, ha2, ⟨by omega, by omega⟩, ?_⟩
  simp only [add_mk]
  (refine wp_load (r0C hpC) ?_; (repeat apply Exists.intro); refine ⟨rfl, ?_⟩)
  refine wp_bif (fun h => absurd h (by decide)) fun _ => ?_
  (refine wp_load (hpC.loadH fC (by simp)) ?_; (repeat apply Exists.intro); refine ⟨rfl, ?_⟩)
  refine wp_call ((ask_runs (id := 5) hpC hrC fit_FC).mono fun v w' h => top3_give h) fun v wX0 h0 => ?_
  obtain ⟨csX, cqX, HX0, rfl, hrX, hqX, hpX0, hleX0⟩ := h0
  have hrX' := hrX
  obtain ⟨yX1, yX2, yX3, yX4, yX5, yX6, yX7, rfl, hyX⟩ := hrX
  obtain ⟨zX1, zX2, zX3, rfl, hvX, hsX, hdX⟩ := hqX
  have hrX := hrX'
  clear hrX'
  have nvX := hvX.1
  have nsX := hsX.1
  have ndX := hdX.1
  ((repeat apply Exists.intro); refine ⟨rfl, ?_⟩)
  refine wp_keep2 hpX0 (by rfl) (by rfl) (by simp [Value.oneCell']) (by simp [Value.oneCell']) fun pX qX wX HX hpX hleX fX gX => ?_
  have lxX := hleX0.trans hleX
  replace fA := lxX _ _ fA
  replace gA := lxX _ _ gA
  replace hrA := hrA.mono lxX
  replace hsA := hsA.mono lxX (Ms.mono lxX)
  replace hyA := hyA.mono lxX
  replace fB := lxX _ _ fB
  replace gB := lxX _ _ gB
  replace hrB := hrB.mono lxX
  replace hsB := hsB.mono lxX (Ms.mono lxX)
  replace hyB := hyB.mono lxX
  replace fC := lxX _ _ fC
  replace gC := lxX _ _ gC
  replace hrC := hrC.mono lxX
  replace hsC := hsC.mono lxX (Ms.mono lxX)
  replace hyC := hyC.mono lxX
  replace hrX := hrX.mono hleX
  replace hsX := hsX.mono hleX (Ms.mono hleX)
  replace hyX := hyX.mono hleX
  replace hdX := hdX.mono hleX fun _ _ h => h
  (refine wp_load (hpX.loadH fC (by simp)) ?_; (repeat apply Exists.intro); refine ⟨rfl, ?_⟩)
  refine wp_call ((got_runs (m := mD) hpX hrC (show Ms _ _ mD from ⟨none, 0, 0, none, 0, 0, rfl, Sl.nil _ _, Bs.nil _⟩) fit_FC lm_mD).mono fun v w' h => top_give h) fun v wD0 h0 => ?_
  obtain ⟨csD, cqD, HD0, rfl, hrD, hqD, hpD0, hleD0⟩ := h0
  have hrD' := hrD
  obtain ⟨yD1, yD2, yD3, yD4, yD5, yD6, yD7, rfl, hyD⟩ := hrD
  obtain ⟨zD1, zD2, zD3, rfl, hvD, hsD, hdD⟩ := hqD
  have hrD := hrD'
  clear hrD'
  have nvD := hvD.1
  have nsD := hsD.1
  have ndD := hdD.1
  ((repeat apply Exists.intro); refine ⟨rfl, ?_⟩)
  refine wp_keep2 hpD0 (by rfl) (by rfl) (by simp [Value.oneCell']) (by simp [Value.oneCell']) fun pD qD wD HD hpD hleD fD gD => ?_
  have lxD := hleD0.trans hleD
  replace fA := lxD _ _ fA
  replace gA := lxD _ _ gA
  replace hrA := hrA.mono lxD
  replace hsA := hsA.mono lxD (Ms.mono lxD)
  replace hyA := hyA.mono lxD
  replace fB := lxD _ _ fB
  replace gB := lxD _ _ gB
  replace hrB := hrB.mono lxD
  replace hsB := hsB.mono lxD (Ms.mono lxD)
  replace hyB := hyB.mono lxD
  replace fC := lxD _ _ fC
  replace gC := lxD _ _ gC
  replace hrC := hrC.mono lxD
  replace hsC := hsC.mono lxD (Ms.mono lxD)
  replace hyC := hyC.mono lxD
  replace fX := lxD _ _ fX
  replace gX := lxD _ _ gX
  replace hrX := hrX.mono lxD
  replace hsX := hsX.mono lxD (Ms.mono lxD)
  replace hyX := hyX.mono lxD
  replace hrD := hrD.mono hleD
  replace hsD := hsD.mono hleD (Ms.mono hleD)
  replace hyD := hyD.mono hleD
  replace hdD := hdD.mono hleD fun _ _ h => h
  (refine wp_load (hpD.loadH fD (by simp)) ?_; (repeat apply Exists.intro); refine ⟨rfl, ?_⟩)
  refine wp_call ((ask_runs (id := 5) hpD hrD fit_FD).mono fun v w' h => top3_give h) fun v wE0 h0 => ?_
  obtain ⟨csE, cqE, HE0, rfl, hrE, hqE, hpE0, hleE0⟩ := h0
  have hrE' := hrE
  obtain ⟨yE1, yE2, yE3, yE4, yE5, yE6, yE7, rfl, hyE⟩ := hrE
  obtain ⟨zE1, zE2, zE3, rfl, hvE, hsE, hdE⟩ := hqE
  have hrE := hrE'
  clear hrE'
  have nvE := hvE.1
  have nsE := hsE.1
  have ndE := hdE.1
  ((repeat apply Exists.intro); refine ⟨rfl, ?_⟩)
  refine wp_keep2 hpE0 (by rfl) (by rfl) (by simp [Value.oneCell']) (by simp [Value.oneCell']) fun pE qE wE HE hpE hleE fE gE => ?_
  have lxE := hleE0.trans hleE
  replace fA := lxE _ _ fA
  replace gA := lxE _ _ gA
  replace hrA := hrA.mono lxE
  replace hsA := hsA.mono lxE (Ms.mono lxE)
  replace hyA := hyA.mono lxE
  replace fB := lxE _ _ fB
  replace gB := lxE _ _ gB
  replace hrB := hrB.mono lxE
  replace hsB := hsB.mono lxE (Ms.mono lxE)
  replace hyB := hyB.mono lxE
  replace fC := lxE _ _ fC
  replace gC := lxE _ _ gC
  replace hrC := hrC.mono lxE
  replace hsC := hsC.mono lxE (Ms.mono lxE)
  replace hyC := hyC.mono lxE
  replace fX := lxE _ _ fX
  replace gX := lxE _ _ gX
  replace hrX := hrX.mono lxE
  replace hsX := hsX.mono lxE (Ms.mono lxE)
  replace hyX := hyX.mono lxE
  replace fD := lxE _ _ fD
  replace gD := lxE _ _ gD
  replace hrD := hrD.mono lxE
  replace hsD := hsD.mono lxE (Ms.mono lxE)
  replace hyD := hyD.mono lxE
  replace hrE := hrE.mono hleE
  replace hsE := hsE.mono hleE (Ms.mono hleE)
  replace hyE := hyE.mono hleE
  replace hdE := hdE.mono hleE fun _ _ h => h
  refine wp_bif (fun h => absurd h (by decide)) fun _ => ?_
  (refine wp_load (hpE.loadH fD (by simp)) ?_; (repeat apply Exists.intro); refine ⟨rfl, ?_⟩)
  refine wp_bif (fun h => absurd h (by decide)) fun _ => ?_
  refine wp_bif (fun h => absurd h (by decide)) fun _ => ?_
  change zE3.n = FE.1.q.ready.length at ndE
  (refine wp_load (hpE.loadH gE (by simp)) ?_; (repeat apply Exists.intro); refine ⟨rfl, ?_⟩)
  rw [show FE.1.q.ready.length = 0 by decide] at ndE
  refine wp_bif (fun h => by rw [ndE] at h; simp at h) fun _ => ?_
  have nrE := hyE.reads.1
  change yE7.n = FE.1.r.reads.length at nrE
  (refine wp_load (hpE.loadH fE (by simp)) ?_; (repeat apply Exists.intro); refine ⟨rfl, ?_⟩)
  rw [show FE.1.r.reads.length = 1 by decide] at nrE
  refine wp_bif (fun h => by rw [nrE] at h; simp at h) fun _ => ?_
  (refine wp_load (hpE.loadH fE (by simp)) ?_; (repeat apply Exists.intro); refine ⟨rfl, ?_⟩)
  refine wp_bif (fun h => absurd h (by decide)) fun _ => ?_
  change zE2.n = FE.1.q.send.length at nsE
  (refine wp_load (hpE.loadH gE (by simp)) ?_; (repeat apply Exists.intro); refine ⟨rfl, ?_⟩)
  rw [show FE.1.q.send.length = 2 by decide] at nsE
  refine wp_bif (fun h => by rw [nsE] at h; simp at h) fun _ => ?_
  obtain ⟨b3, o3, ha3, _, _, _, r0E, _⟩ := msgAt hsE hpE 0 (show 0 < FE.1.q.send.length by decide)
  simp only [Nat.zero_mul, Nat.add_zero] at r0E
  (refine wp_load (hpE.loadH gE (by simp)) ?_; (repeat apply Exists.intro); refine ⟨rfl, ?_⟩)
  refine ⟨_, ha3, ⟨by omega, by omega⟩, ?_⟩
  simp only [add_mk]
  (refine wp_load (r0E hpE) ?_; (repeat apply Exists.intro); refine ⟨rfl, ?_⟩)
  refine wp_bif (fun h => absurd h (by decide)) fun _ => ?_
  (refine wp_load (hpE.loadH fE (by simp)) ?_; (repeat apply Exists.intro); refine ⟨rfl, ?_⟩)
  refine wp_call ((got_runs (m := mF) hpE hrE (show Ms _ _ mF from ⟨none, 0, 0, none, 0, 0, rfl, Sl.nil _ _, Bs.nil _⟩) fit_FE lm_mF).mono fun v w' h => top_give h) fun v wF0 h0 => ?_
  obtain ⟨csF, cqF, HF0, rfl, hrF, hqF, hpF0, hleF0⟩ := h0
  have hrF' := hrF
  obtain ⟨yF1, yF2, yF3, yF4, yF5, yF6, yF7, rfl, hyF⟩ := hrF
  obtain ⟨zF1, zF2, zF3, rfl, hvF, hsF, hdF⟩ := hqF
  have hrF := hrF'
  clear hrF'
  have nvF := hvF.1
  have nsF := hsF.1
  have ndF := hdF.1
  ((repeat apply Exists.intro); refine ⟨rfl, ?_⟩)
  refine wp_keep2 hpF0 (by rfl) (by rfl) (by simp [Value.oneCell']) (by simp [Value.oneCell']) fun pF qF wF HF hpF hleF fF gF => ?_
  have lxF := hleF0.trans hleF
  replace fA := lxF _ _ fA
  replace gA := lxF _ _ gA
  replace hrA := hrA.mono lxF
  replace hsA := hsA.mono lxF (Ms.mono lxF)
  replace hyA := hyA.mono lxF
  replace fB := lxF _ _ fB
  replace gB := lxF _ _ gB
  replace hrB := hrB.mono lxF
  replace hsB := hsB.mono lxF (Ms.mono lxF)
  replace hyB := hyB.mono lxF
  replace fC := lxF _ _ fC
  replace gC := lxF _ _ gC
  replace hrC := hrC.mono lxF
  replace hsC := hsC.mono lxF (Ms.mono lxF)
  replace hyC := hyC.mono lxF
  replace fX := lxF _ _ fX
  replace gX := lxF _ _ gX
  replace hrX := hrX.mono lxF
  replace hsX := hsX.mono lxF (Ms.mono lxF)
  replace hyX := hyX.mono lxF
  replace fD := lxF _ _ fD
  replace gD := lxF _ _ gD
  replace hrD := hrD.mono lxF
  replace hsD := hsD.mono lxF (Ms.mono lxF)
  replace hyD := hyD.mono lxF
  replace fE := lxF _ _ fE
  replace gE := lxF _ _ gE
  replace hrE := hrE.mono lxF
  replace hsE := hsE.mono lxF (Ms.mono lxF)
  replace hyE := hyE.mono lxF
  replace hrF := hrF.mono hleF
  replace hsF := hsF.mono hleF (Ms.mono hleF)
  replace hyF := hyF.mono hleF
  replace hdF := hdF.mono hleF fun _ _ h => h
  (refine wp_load (hpF.loadH fF (by simp)) ?_; (repeat apply Exists.intro); refine ⟨rfl, ?_⟩)
  refine wp_call ((got_runs (m := mG) hpF hrF (show Ms _ _ mG from ⟨none, 0, 0, none, 0, 0, rfl, Sl.nil _ _, Bs.nil _⟩) fit_FF lm_mG).mono fun v w' h => top_give h) fun v wG0 h0 => ?_
  obtain ⟨csG, cqG, HG0, rfl, hrG, hqG, hpG0, hleG0⟩ := h0
  have hrG' := hrG
  obtain ⟨yG1, yG2, yG3, yG4, yG5, yG6, yG7, rfl, hyG⟩ := hrG
  obtain ⟨zG1, zG2, zG3, rfl, hvG, hsG, hdG⟩ := hqG
  have hrG := hrG'
  clear hrG'
  have nvG := hvG.1
  have nsG := hsG.1
  have ndG := hdG.1
  ((repeat apply Exists.intro); refine ⟨rfl, ?_⟩)
  refine wp_keep2 hpG0 (by rfl) (by rfl) (by simp [Value.oneCell']) (by simp [Value.oneCell']) fun pG qG wG HG hpG hleG fG gG => ?_
  have lxG := hleG0.trans hleG
  replace fA := lxG _ _ fA
  replace gA := lxG _ _ gA
  replace hrA := hrA.mono lxG
  replace hsA := hsA.mono lxG (Ms.mono lxG)
  replace hyA := hyA.mono lxG
  replace fB := lxG _ _ fB
  replace gB := lxG _ _ gB
  replace hrB := hrB.mono lxG
  replace hsB := hsB.mono lxG (Ms.mono lxG)
  replace hyB := hyB.mono lxG
  replace fC := lxG _ _ fC
  replace gC := lxG _ _ gC
  replace hrC := hrC.mono lxG
  replace hsC := hsC.mono lxG (Ms.mono lxG)
  replace hyC := hyC.mono lxG
  replace fX := lxG _ _ fX
  replace gX := lxG _ _ gX
  replace hrX := hrX.mono lxG
  replace hsX := hsX.mono lxG (Ms.mono lxG)
  replace hyX := hyX.mono lxG
  replace fD := lxG _ _ fD
  replace gD := lxG _ _ gD
  replace hrD := hrD.mono lxG
  replace hsD := hsD.mono lxG (Ms.mono lxG)
  replace hyD := hyD.mono lxG
  replace fE := lxG _ _ fE
  replace gE := lxG _ _ gE
  replace hrE := hrE.mono lxG
  replace hsE := hsE.mono lxG (Ms.mono lxG)
  replace hyE := hyE.mono lxG
  replace fF := lxG _ _ fF
  replace gF := lxG _ _ gF
  replace hrF := hrF.mono lxG
  replace hsF := hsF.mono lxG (Ms.mono lxG)
  replace hyF := hyF.mono lxG
  replace hrG := hrG.mono hleG
  replace hsG := hsG.mono hleG (Ms.mono hleG)
  replace hyG := hyG.mono hleG
  replace hdG := hdG.mono hleG fun _ _ h => h
  (refine wp_load (hpG.loadH fG (by simp)) ?_; (repeat apply Exists.intro); refine ⟨rfl, ?_⟩)
  refine wp_call ((got_runs (m := mH) hpG hrG (show Ms _ _ mH from ⟨none, 0, 0, none, 0, 0, rfl, Sl.nil _ _, Bs.nil _⟩) fit_FG lm_mH).mono fun v w' h => top_give h) fun v wZ0 h0 => ?_
  obtain ⟨csZ, cqZ, HZ0, rfl, hrZ, hqZ, hpZ0, hleZ0⟩ := h0
  have hrZ' := hrZ
  obtain ⟨yZ1, yZ2, yZ3, yZ4, yZ5, yZ6, yZ7, rfl, hyZ⟩ := hrZ
  obtain ⟨zZ1, zZ2, zZ3, rfl, hvZ, hsZ, hdZ⟩ := hqZ
  have hrZ := hrZ'
  clear hrZ'
  have nvZ := hvZ.1
  have nsZ := hsZ.1
  have ndZ := hdZ.1
  ((repeat apply Exists.intro); refine ⟨rfl, ?_⟩)
  refine wp_keep2 hpZ0 (by rfl) (by rfl) (by simp [Value.oneCell']) (by simp [Value.oneCell']) fun pZ qZ wZ HZ hpZ hleZ fZ gZ => ?_
  have lxZ := hleZ0.trans hleZ
  replace fA := lxZ _ _ fA
  replace gA := lxZ _ _ gA
  replace hrA := hrA.mono lxZ
  replace hsA := hsA.mono lxZ (Ms.mono lxZ)
  replace hyA := hyA.mono lxZ
  replace fB := lxZ _ _ fB
  replace gB := lxZ _ _ gB
  replace hrB := hrB.mono lxZ
  replace hsB := hsB.mono lxZ (Ms.mono lxZ)
  replace hyB := hyB.mono lxZ
  replace fC := lxZ _ _ fC
  replace gC := lxZ _ _ gC
  replace hrC := hrC.mono lxZ
  replace hsC := hsC.mono lxZ (Ms.mono lxZ)
  replace hyC := hyC.mono lxZ
  replace fX := lxZ _ _ fX
  replace gX := lxZ _ _ gX
  replace hrX := hrX.mono lxZ
  replace hsX := hsX.mono lxZ (Ms.mono lxZ)
  replace hyX := hyX.mono lxZ
  replace fD := lxZ _ _ fD
  replace gD := lxZ _ _ gD
  replace hrD := hrD.mono lxZ
  replace hsD := hsD.mono lxZ (Ms.mono lxZ)
  replace hyD := hyD.mono lxZ
  replace fE := lxZ _ _ fE
  replace gE := lxZ _ _ gE
  replace hrE := hrE.mono lxZ
  replace hsE := hsE.mono lxZ (Ms.mono lxZ)
  replace hyE := hyE.mono lxZ
  replace fF := lxZ _ _ fF
  replace gF := lxZ _ _ gF
  replace hrF := hrF.mono lxZ
  replace hsF := hsF.mono lxZ (Ms.mono lxZ)
  replace hyF := hyF.mono lxZ
  replace fG := lxZ _ _ fG
  replace gG := lxZ _ _ gG
  replace hrG := hrG.mono lxZ
  replace hsG := hsG.mono lxZ (Ms.mono lxZ)
  replace hyG := hyG.mono lxZ
  replace hrZ := hrZ.mono hleZ
  replace hsZ := hsZ.mono hleZ (Ms.mono hleZ)
  replace hyZ := hyZ.mono hleZ
  replace hdZ := hdZ.mono hleZ fun _ _ h => h
  replace hdG := hdG.mono lxZ fun _ _ h => h
  change zF3.n = FF.q.ready.length at ndF
  (refine wp_load (hpZ.loadH gF (by simp)) ?_; (repeat apply Exists.intro); refine ⟨rfl, ?_⟩)
  rw [show FF.q.ready.length = 0 by decide] at ndF
  refine wp_bif (fun _ => ?_) fun h => by rw [ndF] at h; simp at h
  change zG3.n = FG.q.ready.length at ndG
  (refine wp_load (hpZ.loadH gG (by simp)) ?_; (repeat apply Exists.intro); refine ⟨rfl, ?_⟩)
  rw [show FG.q.ready.length = 1 by decide] at ndG
  refine wp_bif (fun _ => ?_) fun h => by rw [ndG] at h; simp at h
  obtain ⟨b4, o4, c4, ha4, hc4, hat4⟩ := Sl.elem Re.len hdG hpZ (List.getElem?_eq_getElem (show 0 < FG.q.ready.length by decide)) (by omega)
  cases hc4
  have r4 := hat4 _ _ hpZ 0 1 (by omega)
  simp only [Nat.zero_mul, Nat.add_zero] at r4
  (refine wp_load (hpZ.loadH gG (by simp)) ?_; (repeat apply Exists.intro); refine ⟨rfl, ?_⟩)
  refine ⟨_, ha4, ⟨by omega, by omega⟩, ?_⟩
  (refine wp_load (r4) ?_; (repeat apply Exists.intro); refine ⟨rfl, ?_⟩)
  refine wp_bif (fun _ => ?_) fun h => absurd h (by decide)
  have nrG := hyG.reads.1
  change yG7.n = FG.r.reads.length at nrG
  rw [show FG.r.reads.length = 0 by decide] at nrG
  (refine wp_load (hpZ.loadH fG (by simp)) ?_; (repeat apply Exists.intro); refine ⟨rfl, ?_⟩)
  refine wp_bif (fun _ => ?_) fun h => by rw [nrG] at h; simp at h
  (refine wp_load (hpZ.loadH fZ (by simp)) ?_; (repeat apply Exists.intro); refine ⟨rfl, ?_⟩)
  refine wp_bif (fun _ => ?_) fun h => absurd h (by decide)
  (refine wp_load (hpZ.loadH fZ (by simp)) ?_; (repeat apply Exists.intro); refine ⟨rfl, ?_⟩)
  refine wp_bif (fun _ => ?_) fun h => absurd h (by decide)
  (refine wp_load (hpZ.loadH fZ (by simp)) ?_; (repeat apply Exists.intro); refine ⟨rfl, ?_⟩)
  refine wp_bif (fun _ => ?_) fun h => absurd h (by decide)
  change zZ2.n = FH.q.send.length at nsZ
  rw [show FH.q.send.length = 1 by decide] at nsZ
  (refine wp_load (hpZ.loadH gZ (by simp)) ?_; (repeat apply Exists.intro); refine ⟨rfl, ?_⟩)
  refine wp_bif (fun _ => ?_) fun h => by rw [nsZ] at h; simp at h
  obtain ⟨b5, o5, ha5, _, _, _, _, okZ⟩ := msgAt hsZ hpZ 0 (show 0 < FH.q.send.length by decide)
  simp only [Nat.zero_mul, Nat.add_zero] at okZ
  (refine wp_load (hpZ.loadH gZ (by simp)) ?_; (repeat apply Exists.intro); refine ⟨rfl, ?_⟩)
  refine ⟨_, ha5, ⟨by omega, by omega⟩, ?_⟩
  simp only [add_mk]
  (refine wp_load (okZ hpZ) ?_; (repeat apply Exists.intro); refine ⟨rfl, ?_⟩)
  exact ⟨congrArg Value.bool (by decide), hpZ.lessH (((((((((hleI.trans lxA).trans lxB).trans lxC).trans lxX).trans lxD).trans lxE).trans lxF).trans lxG).trans lxZ)⟩
end
end Go.Proofs.Ytnbfffmdplcajaa
