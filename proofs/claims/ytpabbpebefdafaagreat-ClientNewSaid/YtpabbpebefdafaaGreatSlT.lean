import Derived.Test.YtpabbpebefdafaaGreatSlK
namespace Go.Proofs.YtpabbpebefdafaaGreat.Sl
open Go Go.RowKit
set_option linter.unusedVariables false
section
variable {P:Program} {ops:Array Oper} {Q:Exit→Act→World→Prop} {n m:Nat} {E:Nat→Value} {a:Act} {W0 w F0 F:World} {N:Nat→Prop} {L Y:List Asrt}
theorem plq{g:FuncId}{args:List Value}{v0:Value}{G:World}(hE:Env n E a)(hS:St W0 N F0 w F L)(hg:Enters P g)(h:Calls P g args.toArray w fun e w'=>∃ v,e = .returned v∧∃ F',v=v0∧St w (mine w []) G w' F' Y)(K:∀ w',St W0 N F0 w' F L→∀ a',Env n (updO E (opAt ops m).dst v0) a'→Pl P ops Q (m+1) a' w')(hk:callK E (opAt ops m)=some (g,args):=by kernel_rfl)(ho:okS ops n E m=true:=by kernel_rfl):Pl P ops Q m a w :=
 ple hE (.cl hg h hk) (fun v w' a' hR hE'=>by
  obtain ⟨F',rfl,hC⟩:=hR
  exact K w' (hS.lent hC) a' hE') ho
theorem pls{b:Nat}{cs:Array Value}{e:TypeId}(hE:Env n E a)(hS:St W0 N F0 w F (box b cs e :: L))(cs':List Value)(K:∀ w',w'.heap[b]? = some (.cells cs'.toArray e (0,0))→St W0 N F0 w' F (box b cs'.toArray e :: L)→∀ a',Env n (updO E (opAt ops m).dst undef) a'→Pl P ops Q (m+1) a' w')(hk:stoK P E (opAt ops m) cs.toList=some (b,cs'):=by kernel_rfl)(ho:okS ops n E m=true:=by kernel_rfl):Pl P ops Q m a w :=
 ple hE (.sto hS cs' hk) (fun v w' a' hR hE'=>by
  obtain ⟨rfl,hb,hS',_⟩:=hR
  exact K w' hb hS' a' hE') ho
theorem plx{t:TypeId}(hE:Env n E a)(hS:St W0 N F0 w F L)(cs:List Value)(K:∀ b w',w'.heap[b]? = some (.cells cs.toArray t (0,0))→St W0 N F0 w' F (box b cs.toArray t :: L)→∀ a',Env n (updO E (opAt ops m).dst (.pointer (some ⟨b,0,none⟩))) a'→Pl P ops Q (m+1) a' w')(hk:boxK E (opAt ops m)=some (t,cs):=by kernel_rfl)(ho:okS ops n E m=true:=by kernel_rfl):Pl P ops Q m a w :=
 ple hE (.bx hS cs hk) (fun v w' a' hR hE'=>by
  obtain ⟨b,rfl,hb,hS',_⟩:=hR
  exact K b w' hb hS' a' hE') ho
theorem pla{t:TypeId}(hE:Env n E a)(hS:St W0 N F0 w F L)(cs:List Value)(K:∀ b w',w'.heap[b]? = some (.cells cs.toArray t (0,0))→St W0 N F0 w' F (box b cs.toArray t :: L)→∀ a',Env n (updO E (opAt ops m).dst (.pointer (some ⟨b,0,none⟩))) a'→Pl P ops Q (m+1) a' w')(hk:allocK P (opAt ops m)=some (t,cs):=by kernel_rfl)(ho:okS ops n E m=true:=by kernel_rfl):Pl P ops Q m a w :=
 ple hE (.al hS cs hk) (fun v w' a' hR hE'=>by
  obtain ⟨b,rfl,hb,hS',_⟩:=hR
  exact K b w' hb hS' a' hE') ho
end
section
variable {n:Nat} {E:Nat→Value} {a:Act} {β : Type} {o1 o2:Option β} {r : β} {X:Prop}
theorem Env.fk{p:Prop}[Decidable p](hE:Env n E a)(d:Nat)(H:(if p then o1 else o2)=some r)(h1:p→Env n (upd E d (.bool true)) a→o1=some r→X)(h2:¬ p→Env n (upd E d (.bool false)) a→o2=some r→X)(h:E d = .bool (decide p):=by kernel_rfl):X:=by
 rcases sp H with ⟨q,H⟩ | ⟨q,H⟩
 ·exact h1 q (hE.kt d q h) H
 ·exact h2 q (hE.kf d q h) H
theorem Env.fkn{p:Prop}[Decidable p](hE:Env n E a)(d:Nat)(H:(if p then o1 else o2)=some r)(h1:p→Env n (upd E d (.bool false)) a→o1=some r→X)(h2:¬ p→Env n (upd E d (.bool true)) a→o2=some r→X)(h:E d = .bool (!decide p):=by kernel_rfl):X:=by
 rcases sp H with ⟨q,H⟩ | ⟨q,H⟩
 ·exact h1 q (hE.ktn d q h) H
 ·exact h2 q (hE.kfn d q h) H
theorem Env.fb{b:Bool}(hE:Env n E a)(d:Nat)(H:(if b=true then o1 else o2)=some r)(h1:b=true→Env n (upd E d (.bool true)) a→o1=some r→X)(h2:¬ b=true→Env n (upd E d (.bool false)) a→o2=some r→X)(h:E d = .bool b:=by kernel_rfl):X:=by
 rcases sp H with ⟨q,H⟩ | ⟨q,H⟩
 ·exact h1 q (hE.bt d q h) H
 ·exact h2 q (hE.bf d q h) H
theorem Env.fbn{b:Bool}(hE:Env n E a)(d:Nat)(H:(if b=true then o1 else o2)=some r)(h1:b=true→Env n (upd E d (.bool false)) a→o1=some r→X)(h2:¬ b=true→Env n (upd E d (.bool true)) a→o2=some r→X)(h:E d = .bool (!b):=by kernel_rfl):X:=by
 rcases sp H with ⟨q,H⟩ | ⟨q,H⟩
 ·exact h1 q (hE.btn d q h) H
 ·exact h2 q (hE.bfn d q h) H
end
section
variable {P:Program} {n:Nat} {E:Nat→Value} {a:Act} {w:World}
theorem ResV.b{t b:Nat}{ty:TypeId}{cs:Array Value}{e:TypeId}{rs:List ResultVar}{vs:List Value}(hb:w.heap[b]? = some (.cells cs e (0,0)))(ha:aggB P ty=some true)(hs:sizeB P ty=some cs.toList.length)(hr:ResV P E w rs vs)(ht:E t = .pointer (some ⟨b,0,none⟩):=by kernel_rfl):ResV P E w (.cell t ty :: rs) (.agg cs.toList.toArray :: vs):=.cell ht (qCW cs.toList ha hs hb rfl) hr
theorem ResV.t{t:Nat}{v:Value}{rs:List ResultVar}{vs:List Value}(hr:ResV P E w rs vs)(ht:E t=v:=by kernel_rfl):ResV P E w (.tmp t :: rs) (v :: vs):=.tmp ht hr
theorem rtm{fn:Func}{R:Ending→World→Prop}{rs:List ResultVar}{vs:List Value}(hE:Env n E a)(hv:ResV P E w rs vs)(h:R (.returned (.tuple vs.toArray)) w)(hr:fn.results=rs.toArray:=by rfl)(hl:vs.length≠1:=by exact of_decide_eq_true rfl):bodyPost P fn R .ret a w:=retN hE hr hl hv h
end
theorem AgrX.mono{X Y:Nat→Prop}{u v:World}(h:AgrX X u v)(hs:∀ q,X q→Y q):AgrX Y u v:=⟨h.1,fun b hb hy=>h.2 b hb (fun hx=>hy (hs b hx))⟩
theorem Eff.stx{P:Program}{E:Nat→Value}{o:Oper}{W0 W F0 F:World}{N:Nat→Prop}{L:List Asrt}{b:Nat}{cs:Array Value}{e:TypeId}(h:St W0 N F0 W F (box b cs e :: L))(cs':List Value)(hk:stoK P E o cs.toList=some (b,cs'):=by kernel_rfl):Eff P E o W (fun v w'=>Stored W0 N F0 F L b cs'.toArray e W v w'∧AgrX (fun q=>q=b) W w'):=by
 unfold stoK at hk
 split at hk
 ·rename_i t x y hop
  split at hk
  ·rename_i b' off z hx hz
   split at hk
   ·rename_i hb
    simp only [Bool.and_eq_true]at hb
    obtain ⟨h1,h2,h3⟩:=hb
    have h1':=Nat.eq_of_beq_eq_true h1
    simp only [Option.some.injEq,Prod.mk.injEq]at hk
    obtain ⟨rfl,rfl⟩:=hk
    have hsz:(ev E y).cells.size=z:=by simpa using h1'
    subst hsz
    obtain ⟨g2,g3⟩:=qEd (cs':=(cs.toList.take off++(ev E y).cells.toList++cs.toList.drop (off+(ev E y).cells.size)).toArray) h
    exact Eff.skip (qEc hop hx rfl hz h.own.head (by simpa using Nat.le_of_ble_eq_true h2) (qEb h3)) ⟨⟨rfl,g3,g2,(qCU W b' _).2.2.2⟩,(qCU W b' _).2.2.2,fun q _ hq=>setRow_other W b' q _ hq⟩
   ·cases hk
  ·cases hk
 ·cases hk
end Go.Proofs.YtpabbpebefdafaaGreat.Sl
