import Derived.Test.YtpabbpebefdafaaSlK
namespace Go.Proofs.Ytpabbpebefdafaa.Sl
open Go Go.RowKit
set_option linter.unusedVariables false
section
variable {P:Program} {ops:Array Oper} {Q:Exit→Act→World→Prop} {n m:Nat} {E:Nat→Value} {a:Act} {W0 w F0 F:World} {N:Nat→Prop} {L Y:List Asrt}
theorem plq{g:FuncId}{args:List Value}{v0:Value}{G:World}(hE:Env n E a)(hS:St W0 N F0 w F L)(hg:Enters P g)(h:Calls P g args.toArray w fun e w'=>∃ v,e = .returned v∧∃ F',v=v0∧St w (mine w []) G w' F' Y)(K:∀ w',St W0 N F0 w' F L→∀ a',Env n (updO E (opAt ops m).dst v0) a'→Pl P ops Q (m+1) a' w')(hk:callK E (opAt ops m)=some (g,args):=by kernel_rfl)(ho:okS ops n E m=true:=by kernel_rfl):Pl P ops Q m a w :=
 ple hE (.cl hg h hk) (fun v w' a' hR hE'=>by
  obtain ⟨F',rfl,hC⟩:=hR
  exact K w' (hS.lent hC) a' hE') ho
theorem plx{t:TypeId}(hE:Env n E a)(hS:St W0 N F0 w F L)(cs:List Value)(K:∀ b w',w'.heap[b]? = some (.cells cs.toArray t (0,0))→St W0 N F0 w' F (box b cs.toArray t :: L)→∀ a',Env n (updO E (opAt ops m).dst (.pointer (some ⟨b,0,none⟩))) a'→Pl P ops Q (m+1) a' w')(hk:boxK E (opAt ops m)=some (t,cs):=by kernel_rfl)(ho:okS ops n E m=true:=by kernel_rfl):Pl P ops Q m a w :=
 ple hE (.bx hS cs hk) (fun v w' a' hR hE'=>by
  obtain ⟨b,rfl,hb,hS',_⟩:=hR
  exact K b w' hb hS' a' hE') ho
end
section
variable {n:Nat} {E:Nat→Value} {a:Act} {β : Type} {o1 o2:Option β} {r : β} {X:Prop}
theorem Env.fk{p:Prop}[Decidable p](hE:Env n E a)(d:Nat)(H:(if p then o1 else o2)=some r)(h1:p→Env n (upd E d (.bool true)) a→o1=some r→X)(h2:¬ p→Env n (upd E d (.bool false)) a→o2=some r→X)(h:E d = .bool (decide p):=by kernel_rfl):X:=by
 rcases sp H with ⟨q,H⟩ | ⟨q,H⟩
 ·exact h1 q (hE.kt d q h) H
 ·exact h2 q (hE.kf d q h) H
end
section
variable {P:Program} {n:Nat} {E:Nat→Value} {a:Act} {w:World}
end
end Go.Proofs.Ytpabbpebefdafaa.Sl
