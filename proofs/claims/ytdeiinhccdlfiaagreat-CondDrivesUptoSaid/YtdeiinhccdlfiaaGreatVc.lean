import Derived.Test.YtdeiinhccdlfiaaGreatVTys
import Derived.Test.YtdeiinhccdlfiaaGreatVb
set_option linter.unusedVariables false
set_option linter.unusedSimpArgs false
/- Shorter names for rules that are used often. -/
namespace Go.Proofs.YtdeiinhccdlfiaaGreat
open Go.AE

theorem wR {N : Nat} {Q : AEx → Env → Store → Prop} {env env' : Env} {s : Store} {id : Nat} {l : List Oper} (h : runL tys N l.toArray l env = ([], env')) (k : Q .normal env' s) : CW Tryz.prog N (.region id l.toArray false) Q env s :=
 CW.reg (RL.run tO h (RL.nil k))
theorem wS {N : Nat} {Q : AEx → Env → Store → Prop} {ops : Array Oper} {env : Env} {s : Store} {o : Oper} {l : List Oper} {d : Nat} {v : AV} (h : tryO tys N ops env o = some (d, v)) (k : RL Tryz.prog N ops l Q ((d, v) :: env) s) : RL Tryz.prog N ops (o :: l) Q env s := by
 obtain ⟨hd, hN, hs⟩ := tryO_ok (J := JT) (P := Tryz.prog) h
 have hN' : Nat.blt d N = true := by simpa [Nat.blt_eq] using hN
 rcases hs with ⟨hg, hv⟩ | ⟨hg, rfl⟩ | ⟨hg, hv⟩
 ·exact RL.pure tO hg hd hN' hv k
 ·exact RL.skip hg hd hN' k
 ·exact RL.op hg hd hN' (hv s trivial) (fun x s' ⟨h1, h2⟩ => by subst h1; subst h2; exact k) (fun _ _ h => h.elim)
theorem sSub {s : Store} : Store.Sub s s := Store.sub_refl s
theorem sSam {s : Store} {b : Nat} {o : AObj} : s.set b o b = some o := Store.set_same s b o
theorem aRfl {x : AV} : AVle x x := AVle.refl x
def gets (env : Env) : Env → List (Option AV)
 | [] => []
 | q :: e => env.get? q.1 :: gets env e
def haves : Env → List (Option AV)
 | [] => []
 | q :: e => some q.2 :: haves e
theorem wE {env : Env} : ∀ {E : Env}, gets env E = haves E → Env.Sub E env
  | [], _ => trivial
  | (t, v) :: e, h => by
    simp only [gets, haves, List.cons.injEq] at h
    exact ⟨⟨v, h.1, AVle.refl _⟩, wE h.2⟩
end Go.Proofs.YtdeiinhccdlfiaaGreat

