/- Part 32 of roomPlays_card. No condition. -/
import Derived.Test.YtfcindonokhbeaaGreatDoorP28
set_option linter.all false
set_option maxRecDepth 100000
set_option maxHeartbeats 0
section
namespace Go.Proofs.YtfcindonokhbeaaGreatDoor
open Go Go.Dm Go.Proofs Go.Proofs.Tryz
def zP8{k m k1 m1 k2 m2:Int}{t t1 t2:Nat}{d d1 d2:Ba}(b a t':Bool):
  ag 125 [.agg (ndc k m t d),.agg (ndc k1 m1 t1 d1),.agg (ndc k2 m2 t2 d2),.c (.p (.b b)),.c (.p (.b a)),.c (.p (.b t'))] (.tup [.agg (zI ⟨k,m,t,d⟩ ⟨k1,m1,t1,d1⟩ ⟨k2,m2,t2,d2⟩ b a t').1.cv,.c (.p (.b (zI ⟨k,m,t,d⟩ ⟨k1,m1,t1,d1⟩ ⟨k2,m2,t2,d2⟩ b a t').2.1)),.c (.p (.i .i64 (zI ⟨k,m,t,d⟩ ⟨k1,m1,t1,d1⟩ ⟨k2,m2,t2,d2⟩ b a t').2.2))]):=by
 refine aG ?_;refine aa func125 λe f=>?_;cases b<;>cases a<;>cases t'
 all_goals (repeat' (first|exact⟨⟩|refine sp ?_|refine uF eV ?_|refine uF zNR ?_|refine uF (zN _ _) ?_|refine uF (zBi _ _) ?_|refine aH (λ_=>?_) (λ_=>?_)|refine aY (λ_=>?_) (λ_=>?_)))
 all_goals ((simp_all[zI,nd0,jJ,BR,pI];done))
end Go.Proofs.YtfcindonokhbeaaGreatDoor
end
