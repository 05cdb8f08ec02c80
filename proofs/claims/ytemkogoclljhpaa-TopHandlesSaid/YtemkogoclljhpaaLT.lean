/- Closed facts on the types of this translation; printed by gen.py. -/
import Derived.Test.YtemkogoclljhpaaProg
import Derived.Test.YtemkogoclljhpaaLQ
import Derived.KernelRfl
import Derived.WalkKit
import Derived.Laws.StructEq
namespace Go.Proofs.Ytemkogoclljhpaa.T
open Go Go.Proofs.Ytemkogoclljhpaa.L
theorem mixed : Try.prog.follows .mixedOrders = true := by kernel_rfl
theorem sc1 : scalarB Try.prog 1 = true := by kernel_rfl
theorem sz1 : sizeB Try.prog 1 1 = true := by kernel_rfl
theorem zb1 : zeroB Try.prog 1 = true := by kernel_rfl
theorem el1 : elemB Try.prog 1 1 8 = true := by kernel_rfl
theorem us1 : (Try.prog.underlying 1).isSome = true := by kernel_rfl
theorem sc2 : scalarB Try.prog 2 = true := by kernel_rfl
theorem sz2 : sizeB Try.prog 2 1 = true := by kernel_rfl
theorem zb2 : zeroB Try.prog 2 = true := by kernel_rfl
theorem el2 : elemB Try.prog 2 1 8 = true := by kernel_rfl
theorem us2 : (Try.prog.underlying 2).isSome = true := by kernel_rfl
theorem sc3 : scalarB Try.prog 3 = true := by kernel_rfl
theorem sz3 : sizeB Try.prog 3 1 = true := by kernel_rfl
theorem zb3 : zeroB Try.prog 3 = true := by kernel_rfl
theorem el3 : elemB Try.prog 3 1 8 = true := by kernel_rfl
theorem us3 : (Try.prog.underlying 3).isSome = true := by kernel_rfl
theorem sc4 : scalarB Try.prog 4 = true := by kernel_rfl
theorem sz4 : sizeB Try.prog 4 1 = true := by kernel_rfl
theorem zb4 : zeroB Try.prog 4 = true := by kernel_rfl
theorem el4 : elemB Try.prog 4 1 1 = true := by kernel_rfl
theorem us4 : (Try.prog.underlying 4).isSome = true := by kernel_rfl
theorem sc5 : scalarB Try.prog 5 = true := by kernel_rfl
theorem sz5 : sizeB Try.prog 5 1 = true := by kernel_rfl
theorem zb5 : zeroB Try.prog 5 = true := by kernel_rfl
theorem el5 : elemB Try.prog 5 1 1 = true := by kernel_rfl
theorem us5 : (Try.prog.underlying 5).isSome = true := by kernel_rfl
theorem sc6 : scalarB Try.prog 6 = true := by kernel_rfl
theorem sz6 : sizeB Try.prog 6 1 = true := by kernel_rfl
theorem zb6 : zeroB Try.prog 6 = true := by kernel_rfl
theorem el6 : elemB Try.prog 6 1 1 = true := by kernel_rfl
theorem us6 : (Try.prog.underlying 6).isSome = true := by kernel_rfl
theorem ag7 : aggB Try.prog 7 4 = true := by kernel_rfl
theorem sz7 : sizeB Try.prog 7 4 = true := by kernel_rfl
theorem fl7_0 : fieldB Try.prog 7 0 0 = true := by kernel_rfl
theorem fl7_1 : fieldB Try.prog 7 1 1 = true := by kernel_rfl
theorem fl7_2 : fieldB Try.prog 7 2 2 = true := by kernel_rfl
theorem fl7_3 : fieldB Try.prog 7 3 3 = true := by kernel_rfl
theorem zb7 : zeroB Try.prog 7 = true := by kernel_rfl
theorem el7 : elemB Try.prog 7 4 24 = true := by kernel_rfl
theorem us7 : (Try.prog.underlying 7).isSome = true := by kernel_rfl
theorem ag8 : aggB Try.prog 8 4 = true := by kernel_rfl
theorem sz8 : sizeB Try.prog 8 4 = true := by kernel_rfl
theorem fl8_0 : fieldB Try.prog 8 0 0 = true := by kernel_rfl
theorem fl8_1 : fieldB Try.prog 8 1 1 = true := by kernel_rfl
theorem fl8_2 : fieldB Try.prog 8 2 2 = true := by kernel_rfl
theorem fl8_3 : fieldB Try.prog 8 3 3 = true := by kernel_rfl
theorem zb8 : zeroB Try.prog 8 = true := by kernel_rfl
theorem el8 : elemB Try.prog 8 4 24 = true := by kernel_rfl
theorem us8 : (Try.prog.underlying 8).isSome = true := by kernel_rfl
theorem sc9 : scalarB Try.prog 9 = true := by kernel_rfl
theorem sz9 : sizeB Try.prog 9 1 = true := by kernel_rfl
theorem zb9 : zeroB Try.prog 9 = true := by kernel_rfl
theorem el9 : elemB Try.prog 9 1 16 = true := by kernel_rfl
theorem us9 : (Try.prog.underlying 9).isSome = true := by kernel_rfl
theorem sc10 : scalarB Try.prog 10 = true := by kernel_rfl
theorem sz10 : sizeB Try.prog 10 1 = true := by kernel_rfl
theorem zb10 : zeroB Try.prog 10 = true := by kernel_rfl
theorem el10 : elemB Try.prog 10 1 16 = true := by kernel_rfl
theorem us10 : (Try.prog.underlying 10).isSome = true := by kernel_rfl
theorem sc11 : scalarB Try.prog 11 = true := by kernel_rfl
theorem sz11 : sizeB Try.prog 11 1 = true := by kernel_rfl
theorem zb11 : zeroB Try.prog 11 = true := by kernel_rfl
theorem el11 : elemB Try.prog 11 1 16 = true := by kernel_rfl
theorem us11 : (Try.prog.underlying 11).isSome = true := by kernel_rfl
theorem sc12 : scalarB Try.prog 12 = true := by kernel_rfl
theorem sz12 : sizeB Try.prog 12 1 = true := by kernel_rfl
theorem zb12 : zeroB Try.prog 12 = true := by kernel_rfl
theorem el12 : elemB Try.prog 12 1 8 = true := by kernel_rfl
theorem us12 : (Try.prog.underlying 12).isSome = true := by kernel_rfl
theorem ag13 : aggB Try.prog 13 2 = true := by kernel_rfl
theorem sz13 : sizeB Try.prog 13 2 = true := by kernel_rfl
theorem fl13_0 : fieldB Try.prog 13 0 0 = true := by kernel_rfl
theorem fl13_1 : fieldB Try.prog 13 1 1 = true := by kernel_rfl
theorem zb13 : zeroB Try.prog 13 = true := by kernel_rfl
theorem el13 : elemB Try.prog 13 2 24 = true := by kernel_rfl
theorem us13 : (Try.prog.underlying 13).isSome = true := by kernel_rfl
theorem ag14 : aggB Try.prog 14 2 = true := by kernel_rfl
theorem sz14 : sizeB Try.prog 14 2 = true := by kernel_rfl
theorem fl14_0 : fieldB Try.prog 14 0 0 = true := by kernel_rfl
theorem fl14_1 : fieldB Try.prog 14 1 1 = true := by kernel_rfl
theorem zb14 : zeroB Try.prog 14 = true := by kernel_rfl
theorem el14 : elemB Try.prog 14 2 24 = true := by kernel_rfl
theorem us14 : (Try.prog.underlying 14).isSome = true := by kernel_rfl
theorem sc15 : scalarB Try.prog 15 = true := by kernel_rfl
theorem sz15 : sizeB Try.prog 15 1 = true := by kernel_rfl
theorem zb15 : zeroB Try.prog 15 = true := by kernel_rfl
theorem el15 : elemB Try.prog 15 1 8 = true := by kernel_rfl
theorem us15 : (Try.prog.underlying 15).isSome = true := by kernel_rfl
theorem sc16 : scalarB Try.prog 16 = true := by kernel_rfl
theorem sz16 : sizeB Try.prog 16 1 = true := by kernel_rfl
theorem zb16 : zeroB Try.prog 16 = true := by kernel_rfl
theorem el16 : elemB Try.prog 16 1 8 = true := by kernel_rfl
theorem us16 : (Try.prog.underlying 16).isSome = true := by kernel_rfl
theorem sc17 : scalarB Try.prog 17 = true := by kernel_rfl
theorem sz17 : sizeB Try.prog 17 1 = true := by kernel_rfl
theorem zb17 : zeroB Try.prog 17 = true := by kernel_rfl
theorem el17 : elemB Try.prog 17 1 8 = true := by kernel_rfl
theorem us17 : (Try.prog.underlying 17).isSome = true := by kernel_rfl
theorem ag18 : aggB Try.prog 18 1 = true := by kernel_rfl
theorem sz18 : sizeB Try.prog 18 1 = true := by kernel_rfl
theorem fl18_0 : fieldB Try.prog 18 0 0 = true := by kernel_rfl
theorem zb18 : zeroB Try.prog 18 = true := by kernel_rfl
theorem el18 : elemB Try.prog 18 1 8 = true := by kernel_rfl
theorem us18 : (Try.prog.underlying 18).isSome = true := by kernel_rfl
theorem ag19 : aggB Try.prog 19 1 = true := by kernel_rfl
theorem sz19 : sizeB Try.prog 19 1 = true := by kernel_rfl
theorem fl19_0 : fieldB Try.prog 19 0 0 = true := by kernel_rfl
theorem zb19 : zeroB Try.prog 19 = true := by kernel_rfl
theorem el19 : elemB Try.prog 19 1 8 = true := by kernel_rfl
theorem us19 : (Try.prog.underlying 19).isSome = true := by kernel_rfl
theorem sc20 : scalarB Try.prog 20 = true := by kernel_rfl
theorem sz20 : sizeB Try.prog 20 1 = true := by kernel_rfl
theorem zb20 : zeroB Try.prog 20 = true := by kernel_rfl
theorem el20 : elemB Try.prog 20 1 16 = true := by kernel_rfl
theorem us20 : (Try.prog.underlying 20).isSome = true := by kernel_rfl
theorem sc21 : scalarB Try.prog 21 = true := by kernel_rfl
theorem sz21 : sizeB Try.prog 21 1 = true := by kernel_rfl
theorem zb21 : zeroB Try.prog 21 = true := by kernel_rfl
theorem el21 : elemB Try.prog 21 1 4 = true := by kernel_rfl
theorem us21 : (Try.prog.underlying 21).isSome = true := by kernel_rfl
theorem ag22 : aggB Try.prog 22 2 = true := by kernel_rfl
theorem sz22 : sizeB Try.prog 22 2 = true := by kernel_rfl
theorem zb22 : zeroB Try.prog 22 = true := by kernel_rfl
theorem el22 : elemB Try.prog 22 2 8 = true := by kernel_rfl
theorem us22 : (Try.prog.underlying 22).isSome = true := by kernel_rfl
theorem ag23 : aggB Try.prog 23 6 = true := by kernel_rfl
theorem sz23 : sizeB Try.prog 23 6 = true := by kernel_rfl
theorem zb23 : zeroB Try.prog 23 = true := by kernel_rfl
theorem el23 : elemB Try.prog 23 6 24 = true := by kernel_rfl
theorem us23 : (Try.prog.underlying 23).isSome = true := by kernel_rfl
theorem sc24 : scalarB Try.prog 24 = true := by kernel_rfl
theorem sz24 : sizeB Try.prog 24 1 = true := by kernel_rfl
theorem zb24 : zeroB Try.prog 24 = true := by kernel_rfl
theorem el24 : elemB Try.prog 24 1 24 = true := by kernel_rfl
theorem us24 : (Try.prog.underlying 24).isSome = true := by kernel_rfl
theorem sc25 : scalarB Try.prog 25 = true := by kernel_rfl
theorem sz25 : sizeB Try.prog 25 1 = true := by kernel_rfl
theorem zb25 : zeroB Try.prog 25 = true := by kernel_rfl
theorem el25 : elemB Try.prog 25 1 8 = true := by kernel_rfl
theorem us25 : (Try.prog.underlying 25).isSome = true := by kernel_rfl
theorem ag26 : aggB Try.prog 26 2 = true := by kernel_rfl
theorem sz26 : sizeB Try.prog 26 2 = true := by kernel_rfl
theorem fl26_0 : fieldB Try.prog 26 0 0 = true := by kernel_rfl
theorem fl26_1 : fieldB Try.prog 26 1 1 = true := by kernel_rfl
theorem zb26 : zeroB Try.prog 26 = true := by kernel_rfl
theorem el26 : elemB Try.prog 26 2 16 = true := by kernel_rfl
theorem us26 : (Try.prog.underlying 26).isSome = true := by kernel_rfl
theorem ag27 : aggB Try.prog 27 2 = true := by kernel_rfl
theorem sz27 : sizeB Try.prog 27 2 = true := by kernel_rfl
theorem fl27_0 : fieldB Try.prog 27 0 0 = true := by kernel_rfl
theorem fl27_1 : fieldB Try.prog 27 1 1 = true := by kernel_rfl
theorem zb27 : zeroB Try.prog 27 = true := by kernel_rfl
theorem el27 : elemB Try.prog 27 2 16 = true := by kernel_rfl
theorem us27 : (Try.prog.underlying 27).isSome = true := by kernel_rfl
theorem ag28 : aggB Try.prog 28 6 = true := by kernel_rfl
theorem sz28 : sizeB Try.prog 28 6 = true := by kernel_rfl
theorem zb28 : zeroB Try.prog 28 = true := by kernel_rfl
theorem el28 : elemB Try.prog 28 6 48 = true := by kernel_rfl
theorem us28 : (Try.prog.underlying 28).isSome = true := by kernel_rfl
theorem ag29 : aggB Try.prog 29 4 = true := by kernel_rfl
theorem sz29 : sizeB Try.prog 29 4 = true := by kernel_rfl
theorem fl29_0 : fieldB Try.prog 29 0 0 = true := by kernel_rfl
theorem fl29_1 : fieldB Try.prog 29 1 1 = true := by kernel_rfl
theorem fl29_2 : fieldB Try.prog 29 2 2 = true := by kernel_rfl
theorem fl29_3 : fieldB Try.prog 29 3 3 = true := by kernel_rfl
theorem zb29 : zeroB Try.prog 29 = true := by kernel_rfl
theorem el29 : elemB Try.prog 29 4 32 = true := by kernel_rfl
theorem us29 : (Try.prog.underlying 29).isSome = true := by kernel_rfl
theorem ag30 : aggB Try.prog 30 4 = true := by kernel_rfl
theorem sz30 : sizeB Try.prog 30 4 = true := by kernel_rfl
theorem fl30_0 : fieldB Try.prog 30 0 0 = true := by kernel_rfl
theorem fl30_1 : fieldB Try.prog 30 1 1 = true := by kernel_rfl
theorem fl30_2 : fieldB Try.prog 30 2 2 = true := by kernel_rfl
theorem fl30_3 : fieldB Try.prog 30 3 3 = true := by kernel_rfl
theorem zb30 : zeroB Try.prog 30 = true := by kernel_rfl
theorem el30 : elemB Try.prog 30 4 32 = true := by kernel_rfl
theorem us30 : (Try.prog.underlying 30).isSome = true := by kernel_rfl
theorem sc31 : scalarB Try.prog 31 = true := by kernel_rfl
theorem sz31 : sizeB Try.prog 31 1 = true := by kernel_rfl
theorem zb31 : zeroB Try.prog 31 = true := by kernel_rfl
theorem el31 : elemB Try.prog 31 1 8 = true := by kernel_rfl
theorem us31 : (Try.prog.underlying 31).isSome = true := by kernel_rfl
theorem sc32 : scalarB Try.prog 32 = true := by kernel_rfl
theorem sz32 : sizeB Try.prog 32 1 = true := by kernel_rfl
theorem zb32 : zeroB Try.prog 32 = true := by kernel_rfl
theorem el32 : elemB Try.prog 32 1 8 = true := by kernel_rfl
theorem us32 : (Try.prog.underlying 32).isSome = true := by kernel_rfl
theorem sc33 : scalarB Try.prog 33 = true := by kernel_rfl
theorem sz33 : sizeB Try.prog 33 1 = true := by kernel_rfl
theorem zb33 : zeroB Try.prog 33 = true := by kernel_rfl
theorem el33 : elemB Try.prog 33 1 8 = true := by kernel_rfl
theorem us33 : (Try.prog.underlying 33).isSome = true := by kernel_rfl
theorem sc34 : scalarB Try.prog 34 = true := by kernel_rfl
theorem sz34 : sizeB Try.prog 34 1 = true := by kernel_rfl
theorem zb34 : zeroB Try.prog 34 = true := by kernel_rfl
theorem el34 : elemB Try.prog 34 1 8 = true := by kernel_rfl
theorem us34 : (Try.prog.underlying 34).isSome = true := by kernel_rfl
theorem sc35 : scalarB Try.prog 35 = true := by kernel_rfl
theorem sz35 : sizeB Try.prog 35 1 = true := by kernel_rfl
theorem zb35 : zeroB Try.prog 35 = true := by kernel_rfl
theorem el35 : elemB Try.prog 35 1 8 = true := by kernel_rfl
theorem us35 : (Try.prog.underlying 35).isSome = true := by kernel_rfl
theorem sc36 : scalarB Try.prog 36 = true := by kernel_rfl
theorem sz36 : sizeB Try.prog 36 1 = true := by kernel_rfl
theorem zb36 : zeroB Try.prog 36 = true := by kernel_rfl
theorem el36 : elemB Try.prog 36 1 8 = true := by kernel_rfl
theorem us36 : (Try.prog.underlying 36).isSome = true := by kernel_rfl
theorem sc37 : scalarB Try.prog 37 = true := by kernel_rfl
theorem sz37 : sizeB Try.prog 37 1 = true := by kernel_rfl
theorem zb37 : zeroB Try.prog 37 = true := by kernel_rfl
theorem el37 : elemB Try.prog 37 1 8 = true := by kernel_rfl
theorem us37 : (Try.prog.underlying 37).isSome = true := by kernel_rfl
theorem sc38 : scalarB Try.prog 38 = true := by kernel_rfl
theorem sz38 : sizeB Try.prog 38 1 = true := by kernel_rfl
theorem zb38 : zeroB Try.prog 38 = true := by kernel_rfl
theorem el38 : elemB Try.prog 38 1 24 = true := by kernel_rfl
theorem us38 : (Try.prog.underlying 38).isSome = true := by kernel_rfl
theorem sc40 : scalarB Try.prog 40 = true := by kernel_rfl
theorem sz40 : sizeB Try.prog 40 1 = true := by kernel_rfl
theorem zb40 : zeroB Try.prog 40 = true := by kernel_rfl
theorem el40 : elemB Try.prog 40 1 8 = true := by kernel_rfl
theorem us40 : (Try.prog.underlying 40).isSome = true := by kernel_rfl
theorem sc41 : scalarB Try.prog 41 = true := by kernel_rfl
theorem sz41 : sizeB Try.prog 41 1 = true := by kernel_rfl
theorem zb41 : zeroB Try.prog 41 = true := by kernel_rfl
theorem el41 : elemB Try.prog 41 1 8 = true := by kernel_rfl
theorem us41 : (Try.prog.underlying 41).isSome = true := by kernel_rfl
theorem sc42 : scalarB Try.prog 42 = true := by kernel_rfl
theorem sz42 : sizeB Try.prog 42 1 = true := by kernel_rfl
theorem zb42 : zeroB Try.prog 42 = true := by kernel_rfl
theorem el42 : elemB Try.prog 42 1 1 = true := by kernel_rfl
theorem us42 : (Try.prog.underlying 42).isSome = true := by kernel_rfl
theorem sc43 : scalarB Try.prog 43 = true := by kernel_rfl
theorem sz43 : sizeB Try.prog 43 1 = true := by kernel_rfl
theorem zb43 : zeroB Try.prog 43 = true := by kernel_rfl
theorem el43 : elemB Try.prog 43 1 24 = true := by kernel_rfl
theorem us43 : (Try.prog.underlying 43).isSome = true := by kernel_rfl
theorem sc44 : scalarB Try.prog 44 = true := by kernel_rfl
theorem sz44 : sizeB Try.prog 44 1 = true := by kernel_rfl
theorem zb44 : zeroB Try.prog 44 = true := by kernel_rfl
theorem el44 : elemB Try.prog 44 1 8 = true := by kernel_rfl
theorem us44 : (Try.prog.underlying 44).isSome = true := by kernel_rfl
theorem sc45 : scalarB Try.prog 45 = true := by kernel_rfl
theorem sz45 : sizeB Try.prog 45 1 = true := by kernel_rfl
theorem zb45 : zeroB Try.prog 45 = true := by kernel_rfl
theorem el45 : elemB Try.prog 45 1 8 = true := by kernel_rfl
theorem us45 : (Try.prog.underlying 45).isSome = true := by kernel_rfl
theorem sc46 : scalarB Try.prog 46 = true := by kernel_rfl
theorem sz46 : sizeB Try.prog 46 1 = true := by kernel_rfl
theorem zb46 : zeroB Try.prog 46 = true := by kernel_rfl
theorem el46 : elemB Try.prog 46 1 24 = true := by kernel_rfl
theorem us46 : (Try.prog.underlying 46).isSome = true := by kernel_rfl
theorem sc47 : scalarB Try.prog 47 = true := by kernel_rfl
theorem sz47 : sizeB Try.prog 47 1 = true := by kernel_rfl
theorem zb47 : zeroB Try.prog 47 = true := by kernel_rfl
theorem el47 : elemB Try.prog 47 1 24 = true := by kernel_rfl
theorem us47 : (Try.prog.underlying 47).isSome = true := by kernel_rfl
theorem ag48 : aggB Try.prog 48 4 = true := by kernel_rfl
theorem sz48 : sizeB Try.prog 48 4 = true := by kernel_rfl
theorem fl48_0 : fieldB Try.prog 48 0 0 = true := by kernel_rfl
theorem fl48_1 : fieldB Try.prog 48 1 1 = true := by kernel_rfl
theorem fl48_2 : fieldB Try.prog 48 2 2 = true := by kernel_rfl
theorem fl48_3 : fieldB Try.prog 48 3 3 = true := by kernel_rfl
theorem zb48 : zeroB Try.prog 48 = true := by kernel_rfl
theorem el48 : elemB Try.prog 48 4 32 = true := by kernel_rfl
theorem us48 : (Try.prog.underlying 48).isSome = true := by kernel_rfl
theorem ag49 : aggB Try.prog 49 4 = true := by kernel_rfl
theorem sz49 : sizeB Try.prog 49 4 = true := by kernel_rfl
theorem fl49_0 : fieldB Try.prog 49 0 0 = true := by kernel_rfl
theorem fl49_1 : fieldB Try.prog 49 1 1 = true := by kernel_rfl
theorem fl49_2 : fieldB Try.prog 49 2 2 = true := by kernel_rfl
theorem fl49_3 : fieldB Try.prog 49 3 3 = true := by kernel_rfl
theorem zb49 : zeroB Try.prog 49 = true := by kernel_rfl
theorem el49 : elemB Try.prog 49 4 32 = true := by kernel_rfl
theorem us49 : (Try.prog.underlying 49).isSome = true := by kernel_rfl
theorem sc50 : scalarB Try.prog 50 = true := by kernel_rfl
theorem sz50 : sizeB Try.prog 50 1 = true := by kernel_rfl
theorem zb50 : zeroB Try.prog 50 = true := by kernel_rfl
theorem el50 : elemB Try.prog 50 1 8 = true := by kernel_rfl
theorem us50 : (Try.prog.underlying 50).isSome = true := by kernel_rfl
theorem sc51 : scalarB Try.prog 51 = true := by kernel_rfl
theorem sz51 : sizeB Try.prog 51 1 = true := by kernel_rfl
theorem zb51 : zeroB Try.prog 51 = true := by kernel_rfl
theorem el51 : elemB Try.prog 51 1 8 = true := by kernel_rfl
theorem us51 : (Try.prog.underlying 51).isSome = true := by kernel_rfl
theorem sc52 : scalarB Try.prog 52 = true := by kernel_rfl
theorem sz52 : sizeB Try.prog 52 1 = true := by kernel_rfl
theorem zb52 : zeroB Try.prog 52 = true := by kernel_rfl
theorem el52 : elemB Try.prog 52 1 8 = true := by kernel_rfl
theorem us52 : (Try.prog.underlying 52).isSome = true := by kernel_rfl
theorem sc53 : scalarB Try.prog 53 = true := by kernel_rfl
theorem sz53 : sizeB Try.prog 53 1 = true := by kernel_rfl
theorem zb53 : zeroB Try.prog 53 = true := by kernel_rfl
theorem el53 : elemB Try.prog 53 1 8 = true := by kernel_rfl
theorem us53 : (Try.prog.underlying 53).isSome = true := by kernel_rfl
theorem sc54 : scalarB Try.prog 54 = true := by kernel_rfl
theorem sz54 : sizeB Try.prog 54 1 = true := by kernel_rfl
theorem zb54 : zeroB Try.prog 54 = true := by kernel_rfl
theorem el54 : elemB Try.prog 54 1 24 = true := by kernel_rfl
theorem us54 : (Try.prog.underlying 54).isSome = true := by kernel_rfl
theorem sc55 : scalarB Try.prog 55 = true := by kernel_rfl
theorem sz55 : sizeB Try.prog 55 1 = true := by kernel_rfl
theorem zb55 : zeroB Try.prog 55 = true := by kernel_rfl
theorem el55 : elemB Try.prog 55 1 8 = true := by kernel_rfl
theorem us55 : (Try.prog.underlying 55).isSome = true := by kernel_rfl
theorem sc57 : scalarB Try.prog 57 = true := by kernel_rfl
theorem sz57 : sizeB Try.prog 57 1 = true := by kernel_rfl
theorem zb57 : zeroB Try.prog 57 = true := by kernel_rfl
theorem el57 : elemB Try.prog 57 1 8 = true := by kernel_rfl
theorem us57 : (Try.prog.underlying 57).isSome = true := by kernel_rfl
theorem sc58 : scalarB Try.prog 58 = true := by kernel_rfl
theorem sz58 : sizeB Try.prog 58 1 = true := by kernel_rfl
theorem zb58 : zeroB Try.prog 58 = true := by kernel_rfl
theorem el58 : elemB Try.prog 58 1 8 = true := by kernel_rfl
theorem us58 : (Try.prog.underlying 58).isSome = true := by kernel_rfl
theorem sc59 : scalarB Try.prog 59 = true := by kernel_rfl
theorem sz59 : sizeB Try.prog 59 1 = true := by kernel_rfl
theorem zb59 : zeroB Try.prog 59 = true := by kernel_rfl
theorem el59 : elemB Try.prog 59 1 8 = true := by kernel_rfl
theorem us59 : (Try.prog.underlying 59).isSome = true := by kernel_rfl
theorem sc60 : scalarB Try.prog 60 = true := by kernel_rfl
theorem sz60 : sizeB Try.prog 60 1 = true := by kernel_rfl
theorem zb60 : zeroB Try.prog 60 = true := by kernel_rfl
theorem el60 : elemB Try.prog 60 1 24 = true := by kernel_rfl
theorem us60 : (Try.prog.underlying 60).isSome = true := by kernel_rfl
theorem sc61 : scalarB Try.prog 61 = true := by kernel_rfl
theorem sz61 : sizeB Try.prog 61 1 = true := by kernel_rfl
theorem zb61 : zeroB Try.prog 61 = true := by kernel_rfl
theorem el61 : elemB Try.prog 61 1 8 = true := by kernel_rfl
theorem us61 : (Try.prog.underlying 61).isSome = true := by kernel_rfl
theorem sc62 : scalarB Try.prog 62 = true := by kernel_rfl
theorem sz62 : sizeB Try.prog 62 1 = true := by kernel_rfl
theorem zb62 : zeroB Try.prog 62 = true := by kernel_rfl
theorem el62 : elemB Try.prog 62 1 8 = true := by kernel_rfl
theorem us62 : (Try.prog.underlying 62).isSome = true := by kernel_rfl
theorem sc63 : scalarB Try.prog 63 = true := by kernel_rfl
theorem sz63 : sizeB Try.prog 63 1 = true := by kernel_rfl
theorem zb63 : zeroB Try.prog 63 = true := by kernel_rfl
theorem el63 : elemB Try.prog 63 1 8 = true := by kernel_rfl
theorem us63 : (Try.prog.underlying 63).isSome = true := by kernel_rfl
theorem sc64 : scalarB Try.prog 64 = true := by kernel_rfl
theorem sz64 : sizeB Try.prog 64 1 = true := by kernel_rfl
theorem zb64 : zeroB Try.prog 64 = true := by kernel_rfl
theorem el64 : elemB Try.prog 64 1 8 = true := by kernel_rfl
theorem us64 : (Try.prog.underlying 64).isSome = true := by kernel_rfl
theorem ag65 : aggB Try.prog 65 2 = true := by kernel_rfl
theorem sz65 : sizeB Try.prog 65 2 = true := by kernel_rfl
theorem fl65_0 : fieldB Try.prog 65 0 0 = true := by kernel_rfl
theorem fl65_1 : fieldB Try.prog 65 1 1 = true := by kernel_rfl
theorem zb65 : zeroB Try.prog 65 = true := by kernel_rfl
theorem el65 : elemB Try.prog 65 2 16 = true := by kernel_rfl
theorem us65 : (Try.prog.underlying 65).isSome = true := by kernel_rfl
theorem ag66 : aggB Try.prog 66 2 = true := by kernel_rfl
theorem sz66 : sizeB Try.prog 66 2 = true := by kernel_rfl
theorem fl66_0 : fieldB Try.prog 66 0 0 = true := by kernel_rfl
theorem fl66_1 : fieldB Try.prog 66 1 1 = true := by kernel_rfl
theorem zb66 : zeroB Try.prog 66 = true := by kernel_rfl
theorem el66 : elemB Try.prog 66 2 16 = true := by kernel_rfl
theorem us66 : (Try.prog.underlying 66).isSome = true := by kernel_rfl
theorem sc67 : scalarB Try.prog 67 = true := by kernel_rfl
theorem sz67 : sizeB Try.prog 67 1 = true := by kernel_rfl
theorem zb67 : zeroB Try.prog 67 = true := by kernel_rfl
theorem el67 : elemB Try.prog 67 1 8 = true := by kernel_rfl
theorem us67 : (Try.prog.underlying 67).isSome = true := by kernel_rfl
theorem sc69 : scalarB Try.prog 69 = true := by kernel_rfl
theorem sz69 : sizeB Try.prog 69 1 = true := by kernel_rfl
theorem zb69 : zeroB Try.prog 69 = true := by kernel_rfl
theorem el69 : elemB Try.prog 69 1 8 = true := by kernel_rfl
theorem us69 : (Try.prog.underlying 69).isSome = true := by kernel_rfl
theorem sc70 : scalarB Try.prog 70 = true := by kernel_rfl
theorem sz70 : sizeB Try.prog 70 1 = true := by kernel_rfl
theorem zb70 : zeroB Try.prog 70 = true := by kernel_rfl
theorem el70 : elemB Try.prog 70 1 8 = true := by kernel_rfl
theorem us70 : (Try.prog.underlying 70).isSome = true := by kernel_rfl
theorem sc71 : scalarB Try.prog 71 = true := by kernel_rfl
theorem sz71 : sizeB Try.prog 71 1 = true := by kernel_rfl
theorem zb71 : zeroB Try.prog 71 = true := by kernel_rfl
theorem el71 : elemB Try.prog 71 1 8 = true := by kernel_rfl
theorem us71 : (Try.prog.underlying 71).isSome = true := by kernel_rfl
theorem sc72 : scalarB Try.prog 72 = true := by kernel_rfl
theorem sz72 : sizeB Try.prog 72 1 = true := by kernel_rfl
theorem zb72 : zeroB Try.prog 72 = true := by kernel_rfl
theorem el72 : elemB Try.prog 72 1 8 = true := by kernel_rfl
theorem us72 : (Try.prog.underlying 72).isSome = true := by kernel_rfl
theorem sc73 : scalarB Try.prog 73 = true := by kernel_rfl
theorem sz73 : sizeB Try.prog 73 1 = true := by kernel_rfl
theorem zb73 : zeroB Try.prog 73 = true := by kernel_rfl
theorem el73 : elemB Try.prog 73 1 8 = true := by kernel_rfl
theorem us73 : (Try.prog.underlying 73).isSome = true := by kernel_rfl
theorem ag74 : aggB Try.prog 74 2 = true := by kernel_rfl
theorem sz74 : sizeB Try.prog 74 2 = true := by kernel_rfl
theorem fl74_0 : fieldB Try.prog 74 0 0 = true := by kernel_rfl
theorem fl74_1 : fieldB Try.prog 74 1 1 = true := by kernel_rfl
theorem zb74 : zeroB Try.prog 74 = true := by kernel_rfl
theorem el74 : elemB Try.prog 74 2 16 = true := by kernel_rfl
theorem us74 : (Try.prog.underlying 74).isSome = true := by kernel_rfl
theorem ag75 : aggB Try.prog 75 2 = true := by kernel_rfl
theorem sz75 : sizeB Try.prog 75 2 = true := by kernel_rfl
theorem fl75_0 : fieldB Try.prog 75 0 0 = true := by kernel_rfl
theorem fl75_1 : fieldB Try.prog 75 1 1 = true := by kernel_rfl
theorem zb75 : zeroB Try.prog 75 = true := by kernel_rfl
theorem el75 : elemB Try.prog 75 2 16 = true := by kernel_rfl
theorem us75 : (Try.prog.underlying 75).isSome = true := by kernel_rfl
theorem sc76 : scalarB Try.prog 76 = true := by kernel_rfl
theorem sz76 : sizeB Try.prog 76 1 = true := by kernel_rfl
theorem zb76 : zeroB Try.prog 76 = true := by kernel_rfl
theorem el76 : elemB Try.prog 76 1 8 = true := by kernel_rfl
theorem us76 : (Try.prog.underlying 76).isSome = true := by kernel_rfl
theorem sc77 : scalarB Try.prog 77 = true := by kernel_rfl
theorem sz77 : sizeB Try.prog 77 1 = true := by kernel_rfl
theorem zb77 : zeroB Try.prog 77 = true := by kernel_rfl
theorem el77 : elemB Try.prog 77 1 24 = true := by kernel_rfl
theorem us77 : (Try.prog.underlying 77).isSome = true := by kernel_rfl
theorem sc78 : scalarB Try.prog 78 = true := by kernel_rfl
theorem sz78 : sizeB Try.prog 78 1 = true := by kernel_rfl
theorem zb78 : zeroB Try.prog 78 = true := by kernel_rfl
theorem el78 : elemB Try.prog 78 1 24 = true := by kernel_rfl
theorem us78 : (Try.prog.underlying 78).isSome = true := by kernel_rfl
theorem sc79 : scalarB Try.prog 79 = true := by kernel_rfl
theorem sz79 : sizeB Try.prog 79 1 = true := by kernel_rfl
theorem zb79 : zeroB Try.prog 79 = true := by kernel_rfl
theorem el79 : elemB Try.prog 79 1 24 = true := by kernel_rfl
theorem us79 : (Try.prog.underlying 79).isSome = true := by kernel_rfl
theorem ag80 : aggB Try.prog 80 4 = true := by kernel_rfl
theorem sz80 : sizeB Try.prog 80 4 = true := by kernel_rfl
theorem fl80_0 : fieldB Try.prog 80 0 0 = true := by kernel_rfl
theorem fl80_1 : fieldB Try.prog 80 1 1 = true := by kernel_rfl
theorem fl80_2 : fieldB Try.prog 80 2 2 = true := by kernel_rfl
theorem fl80_3 : fieldB Try.prog 80 3 3 = true := by kernel_rfl
theorem zb80 : zeroB Try.prog 80 = true := by kernel_rfl
theorem el80 : elemB Try.prog 80 4 80 = true := by kernel_rfl
theorem us80 : (Try.prog.underlying 80).isSome = true := by kernel_rfl
theorem ag81 : aggB Try.prog 81 4 = true := by kernel_rfl
theorem sz81 : sizeB Try.prog 81 4 = true := by kernel_rfl
theorem fl81_0 : fieldB Try.prog 81 0 0 = true := by kernel_rfl
theorem fl81_1 : fieldB Try.prog 81 1 1 = true := by kernel_rfl
theorem fl81_2 : fieldB Try.prog 81 2 2 = true := by kernel_rfl
theorem fl81_3 : fieldB Try.prog 81 3 3 = true := by kernel_rfl
theorem zb81 : zeroB Try.prog 81 = true := by kernel_rfl
theorem el81 : elemB Try.prog 81 4 80 = true := by kernel_rfl
theorem us81 : (Try.prog.underlying 81).isSome = true := by kernel_rfl
theorem sc82 : scalarB Try.prog 82 = true := by kernel_rfl
theorem sz82 : sizeB Try.prog 82 1 = true := by kernel_rfl
theorem zb82 : zeroB Try.prog 82 = true := by kernel_rfl
theorem el82 : elemB Try.prog 82 1 8 = true := by kernel_rfl
theorem us82 : (Try.prog.underlying 82).isSome = true := by kernel_rfl
theorem sc84 : scalarB Try.prog 84 = true := by kernel_rfl
theorem sz84 : sizeB Try.prog 84 1 = true := by kernel_rfl
theorem zb84 : zeroB Try.prog 84 = true := by kernel_rfl
theorem el84 : elemB Try.prog 84 1 8 = true := by kernel_rfl
theorem us84 : (Try.prog.underlying 84).isSome = true := by kernel_rfl
theorem sc86 : scalarB Try.prog 86 = true := by kernel_rfl
theorem sz86 : sizeB Try.prog 86 1 = true := by kernel_rfl
theorem zb86 : zeroB Try.prog 86 = true := by kernel_rfl
theorem el86 : elemB Try.prog 86 1 8 = true := by kernel_rfl
theorem us86 : (Try.prog.underlying 86).isSome = true := by kernel_rfl
theorem ag87 : aggB Try.prog 87 4 = true := by kernel_rfl
theorem sz87 : sizeB Try.prog 87 4 = true := by kernel_rfl
theorem fl87_0 : fieldB Try.prog 87 0 0 = true := by kernel_rfl
theorem fl87_1 : fieldB Try.prog 87 1 1 = true := by kernel_rfl
theorem fl87_2 : fieldB Try.prog 87 2 2 = true := by kernel_rfl
theorem fl87_3 : fieldB Try.prog 87 3 3 = true := by kernel_rfl
theorem zb87 : zeroB Try.prog 87 = true := by kernel_rfl
theorem el87 : elemB Try.prog 87 4 4 = true := by kernel_rfl
theorem us87 : (Try.prog.underlying 87).isSome = true := by kernel_rfl
theorem ag88 : aggB Try.prog 88 4 = true := by kernel_rfl
theorem sz88 : sizeB Try.prog 88 4 = true := by kernel_rfl
theorem fl88_0 : fieldB Try.prog 88 0 0 = true := by kernel_rfl
theorem fl88_1 : fieldB Try.prog 88 1 1 = true := by kernel_rfl
theorem fl88_2 : fieldB Try.prog 88 2 2 = true := by kernel_rfl
theorem fl88_3 : fieldB Try.prog 88 3 3 = true := by kernel_rfl
theorem zb88 : zeroB Try.prog 88 = true := by kernel_rfl
theorem el88 : elemB Try.prog 88 4 4 = true := by kernel_rfl
theorem us88 : (Try.prog.underlying 88).isSome = true := by kernel_rfl
theorem sc89 : scalarB Try.prog 89 = true := by kernel_rfl
theorem sz89 : sizeB Try.prog 89 1 = true := by kernel_rfl
theorem zb89 : zeroB Try.prog 89 = true := by kernel_rfl
theorem el89 : elemB Try.prog 89 1 8 = true := by kernel_rfl
theorem us89 : (Try.prog.underlying 89).isSome = true := by kernel_rfl
theorem sc90 : scalarB Try.prog 90 = true := by kernel_rfl
theorem sz90 : sizeB Try.prog 90 1 = true := by kernel_rfl
theorem zb90 : zeroB Try.prog 90 = true := by kernel_rfl
theorem el90 : elemB Try.prog 90 1 8 = true := by kernel_rfl
theorem us90 : (Try.prog.underlying 90).isSome = true := by kernel_rfl
theorem sc91 : scalarB Try.prog 91 = true := by kernel_rfl
theorem sz91 : sizeB Try.prog 91 1 = true := by kernel_rfl
theorem zb91 : zeroB Try.prog 91 = true := by kernel_rfl
theorem el91 : elemB Try.prog 91 1 8 = true := by kernel_rfl
theorem us91 : (Try.prog.underlying 91).isSome = true := by kernel_rfl
theorem sc92 : scalarB Try.prog 92 = true := by kernel_rfl
theorem sz92 : sizeB Try.prog 92 1 = true := by kernel_rfl
theorem zb92 : zeroB Try.prog 92 = true := by kernel_rfl
theorem el92 : elemB Try.prog 92 1 8 = true := by kernel_rfl
theorem us92 : (Try.prog.underlying 92).isSome = true := by kernel_rfl
theorem sc93 : scalarB Try.prog 93 = true := by kernel_rfl
theorem sz93 : sizeB Try.prog 93 1 = true := by kernel_rfl
theorem zb93 : zeroB Try.prog 93 = true := by kernel_rfl
theorem el93 : elemB Try.prog 93 1 8 = true := by kernel_rfl
theorem us93 : (Try.prog.underlying 93).isSome = true := by kernel_rfl
theorem sc94 : scalarB Try.prog 94 = true := by kernel_rfl
theorem sz94 : sizeB Try.prog 94 1 = true := by kernel_rfl
theorem zb94 : zeroB Try.prog 94 = true := by kernel_rfl
theorem el94 : elemB Try.prog 94 1 8 = true := by kernel_rfl
theorem us94 : (Try.prog.underlying 94).isSome = true := by kernel_rfl
theorem sc95 : scalarB Try.prog 95 = true := by kernel_rfl
theorem sz95 : sizeB Try.prog 95 1 = true := by kernel_rfl
theorem zb95 : zeroB Try.prog 95 = true := by kernel_rfl
theorem el95 : elemB Try.prog 95 1 8 = true := by kernel_rfl
theorem us95 : (Try.prog.underlying 95).isSome = true := by kernel_rfl
theorem ag96 : aggB Try.prog 96 5 = true := by kernel_rfl
theorem sz96 : sizeB Try.prog 96 5 = true := by kernel_rfl
theorem fl96_0 : fieldB Try.prog 96 0 0 = true := by kernel_rfl
theorem fl96_1 : fieldB Try.prog 96 1 1 = true := by kernel_rfl
theorem fl96_2 : fieldB Try.prog 96 2 2 = true := by kernel_rfl
theorem fl96_3 : fieldB Try.prog 96 3 3 = true := by kernel_rfl
theorem fl96_4 : fieldB Try.prog 96 4 4 = true := by kernel_rfl
theorem zb96 : zeroB Try.prog 96 = true := by kernel_rfl
theorem el96 : elemB Try.prog 96 5 40 = true := by kernel_rfl
theorem us96 : (Try.prog.underlying 96).isSome = true := by kernel_rfl
theorem ag97 : aggB Try.prog 97 5 = true := by kernel_rfl
theorem sz97 : sizeB Try.prog 97 5 = true := by kernel_rfl
theorem fl97_0 : fieldB Try.prog 97 0 0 = true := by kernel_rfl
theorem fl97_1 : fieldB Try.prog 97 1 1 = true := by kernel_rfl
theorem fl97_2 : fieldB Try.prog 97 2 2 = true := by kernel_rfl
theorem fl97_3 : fieldB Try.prog 97 3 3 = true := by kernel_rfl
theorem fl97_4 : fieldB Try.prog 97 4 4 = true := by kernel_rfl
theorem zb97 : zeroB Try.prog 97 = true := by kernel_rfl
theorem el97 : elemB Try.prog 97 5 40 = true := by kernel_rfl
theorem us97 : (Try.prog.underlying 97).isSome = true := by kernel_rfl
theorem sc99 : scalarB Try.prog 99 = true := by kernel_rfl
theorem sz99 : sizeB Try.prog 99 1 = true := by kernel_rfl
theorem zb99 : zeroB Try.prog 99 = true := by kernel_rfl
theorem el99 : elemB Try.prog 99 1 8 = true := by kernel_rfl
theorem us99 : (Try.prog.underlying 99).isSome = true := by kernel_rfl
theorem sc100 : scalarB Try.prog 100 = true := by kernel_rfl
theorem sz100 : sizeB Try.prog 100 1 = true := by kernel_rfl
theorem zb100 : zeroB Try.prog 100 = true := by kernel_rfl
theorem el100 : elemB Try.prog 100 1 8 = true := by kernel_rfl
theorem us100 : (Try.prog.underlying 100).isSome = true := by kernel_rfl
theorem sc101 : scalarB Try.prog 101 = true := by kernel_rfl
theorem sz101 : sizeB Try.prog 101 1 = true := by kernel_rfl
theorem zb101 : zeroB Try.prog 101 = true := by kernel_rfl
theorem el101 : elemB Try.prog 101 1 8 = true := by kernel_rfl
theorem us101 : (Try.prog.underlying 101).isSome = true := by kernel_rfl
theorem sc102 : scalarB Try.prog 102 = true := by kernel_rfl
theorem sz102 : sizeB Try.prog 102 1 = true := by kernel_rfl
theorem zb102 : zeroB Try.prog 102 = true := by kernel_rfl
theorem el102 : elemB Try.prog 102 1 8 = true := by kernel_rfl
theorem us102 : (Try.prog.underlying 102).isSome = true := by kernel_rfl
theorem sc103 : scalarB Try.prog 103 = true := by kernel_rfl
theorem sz103 : sizeB Try.prog 103 1 = true := by kernel_rfl
theorem zb103 : zeroB Try.prog 103 = true := by kernel_rfl
theorem el103 : elemB Try.prog 103 1 24 = true := by kernel_rfl
theorem us103 : (Try.prog.underlying 103).isSome = true := by kernel_rfl
theorem sc104 : scalarB Try.prog 104 = true := by kernel_rfl
theorem sz104 : sizeB Try.prog 104 1 = true := by kernel_rfl
theorem zb104 : zeroB Try.prog 104 = true := by kernel_rfl
theorem el104 : elemB Try.prog 104 1 8 = true := by kernel_rfl
theorem us104 : (Try.prog.underlying 104).isSome = true := by kernel_rfl
theorem ag105 : aggB Try.prog 105 6 = true := by kernel_rfl
theorem sz105 : sizeB Try.prog 105 6 = true := by kernel_rfl
theorem fl105_0 : fieldB Try.prog 105 0 0 = true := by kernel_rfl
theorem fl105_1 : fieldB Try.prog 105 1 1 = true := by kernel_rfl
theorem fl105_2 : fieldB Try.prog 105 2 2 = true := by kernel_rfl
theorem fl105_3 : fieldB Try.prog 105 3 3 = true := by kernel_rfl
theorem fl105_4 : fieldB Try.prog 105 4 4 = true := by kernel_rfl
theorem fl105_5 : fieldB Try.prog 105 5 5 = true := by kernel_rfl
theorem zb105 : zeroB Try.prog 105 = true := by kernel_rfl
theorem el105 : elemB Try.prog 105 6 6 = true := by kernel_rfl
theorem us105 : (Try.prog.underlying 105).isSome = true := by kernel_rfl
theorem ag106 : aggB Try.prog 106 6 = true := by kernel_rfl
theorem sz106 : sizeB Try.prog 106 6 = true := by kernel_rfl
theorem fl106_0 : fieldB Try.prog 106 0 0 = true := by kernel_rfl
theorem fl106_1 : fieldB Try.prog 106 1 1 = true := by kernel_rfl
theorem fl106_2 : fieldB Try.prog 106 2 2 = true := by kernel_rfl
theorem fl106_3 : fieldB Try.prog 106 3 3 = true := by kernel_rfl
theorem fl106_4 : fieldB Try.prog 106 4 4 = true := by kernel_rfl
theorem fl106_5 : fieldB Try.prog 106 5 5 = true := by kernel_rfl
theorem zb106 : zeroB Try.prog 106 = true := by kernel_rfl
theorem el106 : elemB Try.prog 106 6 6 = true := by kernel_rfl
theorem us106 : (Try.prog.underlying 106).isSome = true := by kernel_rfl
theorem sc107 : scalarB Try.prog 107 = true := by kernel_rfl
theorem sz107 : sizeB Try.prog 107 1 = true := by kernel_rfl
theorem zb107 : zeroB Try.prog 107 = true := by kernel_rfl
theorem el107 : elemB Try.prog 107 1 8 = true := by kernel_rfl
theorem us107 : (Try.prog.underlying 107).isSome = true := by kernel_rfl
theorem sc108 : scalarB Try.prog 108 = true := by kernel_rfl
theorem sz108 : sizeB Try.prog 108 1 = true := by kernel_rfl
theorem zb108 : zeroB Try.prog 108 = true := by kernel_rfl
theorem el108 : elemB Try.prog 108 1 8 = true := by kernel_rfl
theorem us108 : (Try.prog.underlying 108).isSome = true := by kernel_rfl
theorem sc109 : scalarB Try.prog 109 = true := by kernel_rfl
theorem sz109 : sizeB Try.prog 109 1 = true := by kernel_rfl
theorem zb109 : zeroB Try.prog 109 = true := by kernel_rfl
theorem el109 : elemB Try.prog 109 1 8 = true := by kernel_rfl
theorem us109 : (Try.prog.underlying 109).isSome = true := by kernel_rfl
theorem sc111 : scalarB Try.prog 111 = true := by kernel_rfl
theorem sz111 : sizeB Try.prog 111 1 = true := by kernel_rfl
theorem zb111 : zeroB Try.prog 111 = true := by kernel_rfl
theorem el111 : elemB Try.prog 111 1 8 = true := by kernel_rfl
theorem us111 : (Try.prog.underlying 111).isSome = true := by kernel_rfl
theorem sc112 : scalarB Try.prog 112 = true := by kernel_rfl
theorem sz112 : sizeB Try.prog 112 1 = true := by kernel_rfl
theorem zb112 : zeroB Try.prog 112 = true := by kernel_rfl
theorem el112 : elemB Try.prog 112 1 8 = true := by kernel_rfl
theorem us112 : (Try.prog.underlying 112).isSome = true := by kernel_rfl
theorem sc113 : scalarB Try.prog 113 = true := by kernel_rfl
theorem sz113 : sizeB Try.prog 113 1 = true := by kernel_rfl
theorem zb113 : zeroB Try.prog 113 = true := by kernel_rfl
theorem el113 : elemB Try.prog 113 1 8 = true := by kernel_rfl
theorem us113 : (Try.prog.underlying 113).isSome = true := by kernel_rfl
theorem sc114 : scalarB Try.prog 114 = true := by kernel_rfl
theorem sz114 : sizeB Try.prog 114 1 = true := by kernel_rfl
theorem zb114 : zeroB Try.prog 114 = true := by kernel_rfl
theorem el114 : elemB Try.prog 114 1 8 = true := by kernel_rfl
theorem us114 : (Try.prog.underlying 114).isSome = true := by kernel_rfl
theorem sc116 : scalarB Try.prog 116 = true := by kernel_rfl
theorem sz116 : sizeB Try.prog 116 1 = true := by kernel_rfl
theorem zb116 : zeroB Try.prog 116 = true := by kernel_rfl
theorem el116 : elemB Try.prog 116 1 8 = true := by kernel_rfl
theorem us116 : (Try.prog.underlying 116).isSome = true := by kernel_rfl
theorem sc118 : scalarB Try.prog 118 = true := by kernel_rfl
theorem sz118 : sizeB Try.prog 118 1 = true := by kernel_rfl
theorem zb118 : zeroB Try.prog 118 = true := by kernel_rfl
theorem el118 : elemB Try.prog 118 1 8 = true := by kernel_rfl
theorem us118 : (Try.prog.underlying 118).isSome = true := by kernel_rfl
theorem sc119 : scalarB Try.prog 119 = true := by kernel_rfl
theorem sz119 : sizeB Try.prog 119 1 = true := by kernel_rfl
theorem zb119 : zeroB Try.prog 119 = true := by kernel_rfl
theorem el119 : elemB Try.prog 119 1 8 = true := by kernel_rfl
theorem us119 : (Try.prog.underlying 119).isSome = true := by kernel_rfl
theorem sc120 : scalarB Try.prog 120 = true := by kernel_rfl
theorem sz120 : sizeB Try.prog 120 1 = true := by kernel_rfl
theorem zb120 : zeroB Try.prog 120 = true := by kernel_rfl
theorem el120 : elemB Try.prog 120 1 8 = true := by kernel_rfl
theorem us120 : (Try.prog.underlying 120).isSome = true := by kernel_rfl
theorem ag121 : aggB Try.prog 121 4 = true := by kernel_rfl
theorem sz121 : sizeB Try.prog 121 4 = true := by kernel_rfl
theorem fl121_0 : fieldB Try.prog 121 0 0 = true := by kernel_rfl
theorem fl121_1 : fieldB Try.prog 121 1 1 = true := by kernel_rfl
theorem fl121_2 : fieldB Try.prog 121 2 2 = true := by kernel_rfl
theorem fl121_3 : fieldB Try.prog 121 3 3 = true := by kernel_rfl
theorem zb121 : zeroB Try.prog 121 = true := by kernel_rfl
theorem el121 : elemB Try.prog 121 4 32 = true := by kernel_rfl
theorem us121 : (Try.prog.underlying 121).isSome = true := by kernel_rfl
theorem ag122 : aggB Try.prog 122 4 = true := by kernel_rfl
theorem sz122 : sizeB Try.prog 122 4 = true := by kernel_rfl
theorem fl122_0 : fieldB Try.prog 122 0 0 = true := by kernel_rfl
theorem fl122_1 : fieldB Try.prog 122 1 1 = true := by kernel_rfl
theorem fl122_2 : fieldB Try.prog 122 2 2 = true := by kernel_rfl
theorem fl122_3 : fieldB Try.prog 122 3 3 = true := by kernel_rfl
theorem zb122 : zeroB Try.prog 122 = true := by kernel_rfl
theorem el122 : elemB Try.prog 122 4 32 = true := by kernel_rfl
theorem us122 : (Try.prog.underlying 122).isSome = true := by kernel_rfl
theorem sc124 : scalarB Try.prog 124 = true := by kernel_rfl
theorem sz124 : sizeB Try.prog 124 1 = true := by kernel_rfl
theorem zb124 : zeroB Try.prog 124 = true := by kernel_rfl
theorem el124 : elemB Try.prog 124 1 8 = true := by kernel_rfl
theorem us124 : (Try.prog.underlying 124).isSome = true := by kernel_rfl
theorem sc125 : scalarB Try.prog 125 = true := by kernel_rfl
theorem sz125 : sizeB Try.prog 125 1 = true := by kernel_rfl
theorem zb125 : zeroB Try.prog 125 = true := by kernel_rfl
theorem el125 : elemB Try.prog 125 1 8 = true := by kernel_rfl
theorem us125 : (Try.prog.underlying 125).isSome = true := by kernel_rfl
theorem sc126 : scalarB Try.prog 126 = true := by kernel_rfl
theorem sz126 : sizeB Try.prog 126 1 = true := by kernel_rfl
theorem zb126 : zeroB Try.prog 126 = true := by kernel_rfl
theorem el126 : elemB Try.prog 126 1 8 = true := by kernel_rfl
theorem us126 : (Try.prog.underlying 126).isSome = true := by kernel_rfl
theorem sc127 : scalarB Try.prog 127 = true := by kernel_rfl
theorem sz127 : sizeB Try.prog 127 1 = true := by kernel_rfl
theorem zb127 : zeroB Try.prog 127 = true := by kernel_rfl
theorem el127 : elemB Try.prog 127 1 8 = true := by kernel_rfl
theorem us127 : (Try.prog.underlying 127).isSome = true := by kernel_rfl
theorem sc128 : scalarB Try.prog 128 = true := by kernel_rfl
theorem sz128 : sizeB Try.prog 128 1 = true := by kernel_rfl
theorem zb128 : zeroB Try.prog 128 = true := by kernel_rfl
theorem el128 : elemB Try.prog 128 1 8 = true := by kernel_rfl
theorem us128 : (Try.prog.underlying 128).isSome = true := by kernel_rfl
theorem ag129 : aggB Try.prog 129 2 = true := by kernel_rfl
theorem sz129 : sizeB Try.prog 129 2 = true := by kernel_rfl
theorem fl129_0 : fieldB Try.prog 129 0 0 = true := by kernel_rfl
theorem fl129_1 : fieldB Try.prog 129 1 1 = true := by kernel_rfl
theorem zb129 : zeroB Try.prog 129 = true := by kernel_rfl
theorem el129 : elemB Try.prog 129 2 16 = true := by kernel_rfl
theorem us129 : (Try.prog.underlying 129).isSome = true := by kernel_rfl
theorem ag130 : aggB Try.prog 130 2 = true := by kernel_rfl
theorem sz130 : sizeB Try.prog 130 2 = true := by kernel_rfl
theorem fl130_0 : fieldB Try.prog 130 0 0 = true := by kernel_rfl
theorem fl130_1 : fieldB Try.prog 130 1 1 = true := by kernel_rfl
theorem zb130 : zeroB Try.prog 130 = true := by kernel_rfl
theorem el130 : elemB Try.prog 130 2 16 = true := by kernel_rfl
theorem us130 : (Try.prog.underlying 130).isSome = true := by kernel_rfl
theorem sc131 : scalarB Try.prog 131 = true := by kernel_rfl
theorem sz131 : sizeB Try.prog 131 1 = true := by kernel_rfl
theorem zb131 : zeroB Try.prog 131 = true := by kernel_rfl
theorem el131 : elemB Try.prog 131 1 8 = true := by kernel_rfl
theorem us131 : (Try.prog.underlying 131).isSome = true := by kernel_rfl
theorem sc132 : scalarB Try.prog 132 = true := by kernel_rfl
theorem sz132 : sizeB Try.prog 132 1 = true := by kernel_rfl
theorem zb132 : zeroB Try.prog 132 = true := by kernel_rfl
theorem el132 : elemB Try.prog 132 1 8 = true := by kernel_rfl
theorem us132 : (Try.prog.underlying 132).isSome = true := by kernel_rfl
theorem sc133 : scalarB Try.prog 133 = true := by kernel_rfl
theorem sz133 : sizeB Try.prog 133 1 = true := by kernel_rfl
theorem zb133 : zeroB Try.prog 133 = true := by kernel_rfl
theorem el133 : elemB Try.prog 133 1 8 = true := by kernel_rfl
theorem us133 : (Try.prog.underlying 133).isSome = true := by kernel_rfl
theorem sc135 : scalarB Try.prog 135 = true := by kernel_rfl
theorem sz135 : sizeB Try.prog 135 1 = true := by kernel_rfl
theorem zb135 : zeroB Try.prog 135 = true := by kernel_rfl
theorem el135 : elemB Try.prog 135 1 8 = true := by kernel_rfl
theorem us135 : (Try.prog.underlying 135).isSome = true := by kernel_rfl
theorem ag136 : aggB Try.prog 136 3 = true := by kernel_rfl
theorem sz136 : sizeB Try.prog 136 3 = true := by kernel_rfl
theorem zb136 : zeroB Try.prog 136 = true := by kernel_rfl
theorem el136 : elemB Try.prog 136 3 72 = true := by kernel_rfl
theorem us136 : (Try.prog.underlying 136).isSome = true := by kernel_rfl
theorem ag137 : aggB Try.prog 137 12 = true := by kernel_rfl
theorem sz137 : sizeB Try.prog 137 12 = true := by kernel_rfl
theorem zb137 : zeroB Try.prog 137 = true := by kernel_rfl
theorem el137 : elemB Try.prog 137 12 96 = true := by kernel_rfl
theorem us137 : (Try.prog.underlying 137).isSome = true := by kernel_rfl
theorem sc138 : scalarB Try.prog 138 = true := by kernel_rfl
theorem sz138 : sizeB Try.prog 138 1 = true := by kernel_rfl
theorem zb138 : zeroB Try.prog 138 = true := by kernel_rfl
theorem el138 : elemB Try.prog 138 1 24 = true := by kernel_rfl
theorem us138 : (Try.prog.underlying 138).isSome = true := by kernel_rfl
theorem ag139 : aggB Try.prog 139 3 = true := by kernel_rfl
theorem sz139 : sizeB Try.prog 139 3 = true := by kernel_rfl
theorem fl139_0 : fieldB Try.prog 139 0 0 = true := by kernel_rfl
theorem fl139_1 : fieldB Try.prog 139 1 1 = true := by kernel_rfl
theorem fl139_2 : fieldB Try.prog 139 2 2 = true := by kernel_rfl
theorem zb139 : zeroB Try.prog 139 = true := by kernel_rfl
theorem el139 : elemB Try.prog 139 3 32 = true := by kernel_rfl
theorem us139 : (Try.prog.underlying 139).isSome = true := by kernel_rfl
theorem ag140 : aggB Try.prog 140 3 = true := by kernel_rfl
theorem sz140 : sizeB Try.prog 140 3 = true := by kernel_rfl
theorem fl140_0 : fieldB Try.prog 140 0 0 = true := by kernel_rfl
theorem fl140_1 : fieldB Try.prog 140 1 1 = true := by kernel_rfl
theorem fl140_2 : fieldB Try.prog 140 2 2 = true := by kernel_rfl
theorem zb140 : zeroB Try.prog 140 = true := by kernel_rfl
theorem el140 : elemB Try.prog 140 3 32 = true := by kernel_rfl
theorem us140 : (Try.prog.underlying 140).isSome = true := by kernel_rfl
theorem ag141 : aggB Try.prog 141 7 = true := by kernel_rfl
theorem sz141 : sizeB Try.prog 141 7 = true := by kernel_rfl
theorem fl141_0 : fieldB Try.prog 141 0 0 = true := by kernel_rfl
theorem fl141_1 : fieldB Try.prog 141 1 3 = true := by kernel_rfl
theorem zb141 : zeroB Try.prog 141 = true := by kernel_rfl
theorem el141 : elemB Try.prog 141 7 64 = true := by kernel_rfl
theorem us141 : (Try.prog.underlying 141).isSome = true := by kernel_rfl
theorem ag142 : aggB Try.prog 142 7 = true := by kernel_rfl
theorem sz142 : sizeB Try.prog 142 7 = true := by kernel_rfl
theorem fl142_0 : fieldB Try.prog 142 0 0 = true := by kernel_rfl
theorem fl142_1 : fieldB Try.prog 142 1 3 = true := by kernel_rfl
theorem zb142 : zeroB Try.prog 142 = true := by kernel_rfl
theorem el142 : elemB Try.prog 142 7 64 = true := by kernel_rfl
theorem us142 : (Try.prog.underlying 142).isSome = true := by kernel_rfl
theorem sc143 : scalarB Try.prog 143 = true := by kernel_rfl
theorem sz143 : sizeB Try.prog 143 1 = true := by kernel_rfl
theorem zb143 : zeroB Try.prog 143 = true := by kernel_rfl
theorem el143 : elemB Try.prog 143 1 24 = true := by kernel_rfl
theorem us143 : (Try.prog.underlying 143).isSome = true := by kernel_rfl
theorem sc144 : scalarB Try.prog 144 = true := by kernel_rfl
theorem sz144 : sizeB Try.prog 144 1 = true := by kernel_rfl
theorem zb144 : zeroB Try.prog 144 = true := by kernel_rfl
theorem el144 : elemB Try.prog 144 1 8 = true := by kernel_rfl
theorem us144 : (Try.prog.underlying 144).isSome = true := by kernel_rfl
theorem sc145 : scalarB Try.prog 145 = true := by kernel_rfl
theorem sz145 : sizeB Try.prog 145 1 = true := by kernel_rfl
theorem zb145 : zeroB Try.prog 145 = true := by kernel_rfl
theorem el145 : elemB Try.prog 145 1 8 = true := by kernel_rfl
theorem us145 : (Try.prog.underlying 145).isSome = true := by kernel_rfl
theorem sc146 : scalarB Try.prog 146 = true := by kernel_rfl
theorem sz146 : sizeB Try.prog 146 1 = true := by kernel_rfl
theorem zb146 : zeroB Try.prog 146 = true := by kernel_rfl
theorem el146 : elemB Try.prog 146 1 8 = true := by kernel_rfl
theorem us146 : (Try.prog.underlying 146).isSome = true := by kernel_rfl
theorem sc147 : scalarB Try.prog 147 = true := by kernel_rfl
theorem sz147 : sizeB Try.prog 147 1 = true := by kernel_rfl
theorem zb147 : zeroB Try.prog 147 = true := by kernel_rfl
theorem el147 : elemB Try.prog 147 1 8 = true := by kernel_rfl
theorem us147 : (Try.prog.underlying 147).isSome = true := by kernel_rfl
theorem sc148 : scalarB Try.prog 148 = true := by kernel_rfl
theorem sz148 : sizeB Try.prog 148 1 = true := by kernel_rfl
theorem zb148 : zeroB Try.prog 148 = true := by kernel_rfl
theorem el148 : elemB Try.prog 148 1 8 = true := by kernel_rfl
theorem us148 : (Try.prog.underlying 148).isSome = true := by kernel_rfl
theorem sc149 : scalarB Try.prog 149 = true := by kernel_rfl
theorem sz149 : sizeB Try.prog 149 1 = true := by kernel_rfl
theorem zb149 : zeroB Try.prog 149 = true := by kernel_rfl
theorem el149 : elemB Try.prog 149 1 8 = true := by kernel_rfl
theorem us149 : (Try.prog.underlying 149).isSome = true := by kernel_rfl
theorem sc150 : scalarB Try.prog 150 = true := by kernel_rfl
theorem sz150 : sizeB Try.prog 150 1 = true := by kernel_rfl
theorem zb150 : zeroB Try.prog 150 = true := by kernel_rfl
theorem el150 : elemB Try.prog 150 1 8 = true := by kernel_rfl
theorem us150 : (Try.prog.underlying 150).isSome = true := by kernel_rfl
theorem ag151 : aggB Try.prog 151 3 = true := by kernel_rfl
theorem sz151 : sizeB Try.prog 151 3 = true := by kernel_rfl
theorem fl151_0 : fieldB Try.prog 151 0 0 = true := by kernel_rfl
theorem fl151_1 : fieldB Try.prog 151 1 1 = true := by kernel_rfl
theorem fl151_2 : fieldB Try.prog 151 2 2 = true := by kernel_rfl
theorem zb151 : zeroB Try.prog 151 = true := by kernel_rfl
theorem el151 : elemB Try.prog 151 3 24 = true := by kernel_rfl
theorem us151 : (Try.prog.underlying 151).isSome = true := by kernel_rfl
theorem ag152 : aggB Try.prog 152 3 = true := by kernel_rfl
theorem sz152 : sizeB Try.prog 152 3 = true := by kernel_rfl
theorem fl152_0 : fieldB Try.prog 152 0 0 = true := by kernel_rfl
theorem fl152_1 : fieldB Try.prog 152 1 1 = true := by kernel_rfl
theorem fl152_2 : fieldB Try.prog 152 2 2 = true := by kernel_rfl
theorem zb152 : zeroB Try.prog 152 = true := by kernel_rfl
theorem el152 : elemB Try.prog 152 3 24 = true := by kernel_rfl
theorem us152 : (Try.prog.underlying 152).isSome = true := by kernel_rfl
theorem sc153 : scalarB Try.prog 153 = true := by kernel_rfl
theorem sz153 : sizeB Try.prog 153 1 = true := by kernel_rfl
theorem zb153 : zeroB Try.prog 153 = true := by kernel_rfl
theorem el153 : elemB Try.prog 153 1 8 = true := by kernel_rfl
theorem us153 : (Try.prog.underlying 153).isSome = true := by kernel_rfl
theorem sc154 : scalarB Try.prog 154 = true := by kernel_rfl
theorem sz154 : sizeB Try.prog 154 1 = true := by kernel_rfl
theorem zb154 : zeroB Try.prog 154 = true := by kernel_rfl
theorem el154 : elemB Try.prog 154 1 8 = true := by kernel_rfl
theorem us154 : (Try.prog.underlying 154).isSome = true := by kernel_rfl
theorem sc156 : scalarB Try.prog 156 = true := by kernel_rfl
theorem sz156 : sizeB Try.prog 156 1 = true := by kernel_rfl
theorem zb156 : zeroB Try.prog 156 = true := by kernel_rfl
theorem el156 : elemB Try.prog 156 1 8 = true := by kernel_rfl
theorem us156 : (Try.prog.underlying 156).isSome = true := by kernel_rfl
theorem ag157 : aggB Try.prog 157 5 = true := by kernel_rfl
theorem sz157 : sizeB Try.prog 157 5 = true := by kernel_rfl
theorem fl157_0 : fieldB Try.prog 157 0 0 = true := by kernel_rfl
theorem fl157_1 : fieldB Try.prog 157 1 1 = true := by kernel_rfl
theorem fl157_2 : fieldB Try.prog 157 2 2 = true := by kernel_rfl
theorem fl157_3 : fieldB Try.prog 157 3 3 = true := by kernel_rfl
theorem fl157_4 : fieldB Try.prog 157 4 4 = true := by kernel_rfl
theorem zb157 : zeroB Try.prog 157 = true := by kernel_rfl
theorem el157 : elemB Try.prog 157 5 5 = true := by kernel_rfl
theorem us157 : (Try.prog.underlying 157).isSome = true := by kernel_rfl
theorem ag158 : aggB Try.prog 158 5 = true := by kernel_rfl
theorem sz158 : sizeB Try.prog 158 5 = true := by kernel_rfl
theorem fl158_0 : fieldB Try.prog 158 0 0 = true := by kernel_rfl
theorem fl158_1 : fieldB Try.prog 158 1 1 = true := by kernel_rfl
theorem fl158_2 : fieldB Try.prog 158 2 2 = true := by kernel_rfl
theorem fl158_3 : fieldB Try.prog 158 3 3 = true := by kernel_rfl
theorem fl158_4 : fieldB Try.prog 158 4 4 = true := by kernel_rfl
theorem zb158 : zeroB Try.prog 158 = true := by kernel_rfl
theorem el158 : elemB Try.prog 158 5 5 = true := by kernel_rfl
theorem us158 : (Try.prog.underlying 158).isSome = true := by kernel_rfl
theorem sc159 : scalarB Try.prog 159 = true := by kernel_rfl
theorem sz159 : sizeB Try.prog 159 1 = true := by kernel_rfl
theorem zb159 : zeroB Try.prog 159 = true := by kernel_rfl
theorem el159 : elemB Try.prog 159 1 24 = true := by kernel_rfl
theorem us159 : (Try.prog.underlying 159).isSome = true := by kernel_rfl
theorem sc160 : scalarB Try.prog 160 = true := by kernel_rfl
theorem sz160 : sizeB Try.prog 160 1 = true := by kernel_rfl
theorem zb160 : zeroB Try.prog 160 = true := by kernel_rfl
theorem el160 : elemB Try.prog 160 1 8 = true := by kernel_rfl
theorem us160 : (Try.prog.underlying 160).isSome = true := by kernel_rfl
theorem sc161 : scalarB Try.prog 161 = true := by kernel_rfl
theorem sz161 : sizeB Try.prog 161 1 = true := by kernel_rfl
theorem zb161 : zeroB Try.prog 161 = true := by kernel_rfl
theorem el161 : elemB Try.prog 161 1 8 = true := by kernel_rfl
theorem us161 : (Try.prog.underlying 161).isSome = true := by kernel_rfl
theorem sc162 : scalarB Try.prog 162 = true := by kernel_rfl
theorem sz162 : sizeB Try.prog 162 1 = true := by kernel_rfl
theorem zb162 : zeroB Try.prog 162 = true := by kernel_rfl
theorem el162 : elemB Try.prog 162 1 8 = true := by kernel_rfl
theorem us162 : (Try.prog.underlying 162).isSome = true := by kernel_rfl
theorem sc163 : scalarB Try.prog 163 = true := by kernel_rfl
theorem sz163 : sizeB Try.prog 163 1 = true := by kernel_rfl
theorem zb163 : zeroB Try.prog 163 = true := by kernel_rfl
theorem el163 : elemB Try.prog 163 1 8 = true := by kernel_rfl
theorem us163 : (Try.prog.underlying 163).isSome = true := by kernel_rfl
theorem sc164 : scalarB Try.prog 164 = true := by kernel_rfl
theorem sz164 : sizeB Try.prog 164 1 = true := by kernel_rfl
theorem zb164 : zeroB Try.prog 164 = true := by kernel_rfl
theorem el164 : elemB Try.prog 164 1 8 = true := by kernel_rfl
theorem us164 : (Try.prog.underlying 164).isSome = true := by kernel_rfl
theorem sc165 : scalarB Try.prog 165 = true := by kernel_rfl
theorem sz165 : sizeB Try.prog 165 1 = true := by kernel_rfl
theorem zb165 : zeroB Try.prog 165 = true := by kernel_rfl
theorem el165 : elemB Try.prog 165 1 24 = true := by kernel_rfl
theorem us165 : (Try.prog.underlying 165).isSome = true := by kernel_rfl
theorem sc167 : scalarB Try.prog 167 = true := by kernel_rfl
theorem sz167 : sizeB Try.prog 167 1 = true := by kernel_rfl
theorem zb167 : zeroB Try.prog 167 = true := by kernel_rfl
theorem el167 : elemB Try.prog 167 1 8 = true := by kernel_rfl
theorem us167 : (Try.prog.underlying 167).isSome = true := by kernel_rfl
theorem sc168 : scalarB Try.prog 168 = true := by kernel_rfl
theorem sz168 : sizeB Try.prog 168 1 = true := by kernel_rfl
theorem zb168 : zeroB Try.prog 168 = true := by kernel_rfl
theorem el168 : elemB Try.prog 168 1 8 = true := by kernel_rfl
theorem us168 : (Try.prog.underlying 168).isSome = true := by kernel_rfl
theorem ag169 : aggB Try.prog 169 2 = true := by kernel_rfl
theorem sz169 : sizeB Try.prog 169 2 = true := by kernel_rfl
theorem fl169_0 : fieldB Try.prog 169 0 0 = true := by kernel_rfl
theorem fl169_1 : fieldB Try.prog 169 1 1 = true := by kernel_rfl
theorem zb169 : zeroB Try.prog 169 = true := by kernel_rfl
theorem el169 : elemB Try.prog 169 2 16 = true := by kernel_rfl
theorem us169 : (Try.prog.underlying 169).isSome = true := by kernel_rfl
theorem sc171 : scalarB Try.prog 171 = true := by kernel_rfl
theorem sz171 : sizeB Try.prog 171 1 = true := by kernel_rfl
theorem zb171 : zeroB Try.prog 171 = true := by kernel_rfl
theorem el171 : elemB Try.prog 171 1 8 = true := by kernel_rfl
theorem us171 : (Try.prog.underlying 171).isSome = true := by kernel_rfl
theorem sc172 : scalarB Try.prog 172 = true := by kernel_rfl
theorem sz172 : sizeB Try.prog 172 1 = true := by kernel_rfl
theorem zb172 : zeroB Try.prog 172 = true := by kernel_rfl
theorem el172 : elemB Try.prog 172 1 8 = true := by kernel_rfl
theorem us172 : (Try.prog.underlying 172).isSome = true := by kernel_rfl
theorem sc173 : scalarB Try.prog 173 = true := by kernel_rfl
theorem sz173 : sizeB Try.prog 173 1 = true := by kernel_rfl
theorem zb173 : zeroB Try.prog 173 = true := by kernel_rfl
theorem el173 : elemB Try.prog 173 1 8 = true := by kernel_rfl
theorem us173 : (Try.prog.underlying 173).isSome = true := by kernel_rfl
theorem sc174 : scalarB Try.prog 174 = true := by kernel_rfl
theorem sz174 : sizeB Try.prog 174 1 = true := by kernel_rfl
theorem zb174 : zeroB Try.prog 174 = true := by kernel_rfl
theorem el174 : elemB Try.prog 174 1 8 = true := by kernel_rfl
theorem us174 : (Try.prog.underlying 174).isSome = true := by kernel_rfl
theorem sc175 : scalarB Try.prog 175 = true := by kernel_rfl
theorem sz175 : sizeB Try.prog 175 1 = true := by kernel_rfl
theorem zb175 : zeroB Try.prog 175 = true := by kernel_rfl
theorem el175 : elemB Try.prog 175 1 8 = true := by kernel_rfl
theorem us175 : (Try.prog.underlying 175).isSome = true := by kernel_rfl
theorem sc177 : scalarB Try.prog 177 = true := by kernel_rfl
theorem sz177 : sizeB Try.prog 177 1 = true := by kernel_rfl
theorem zb177 : zeroB Try.prog 177 = true := by kernel_rfl
theorem el177 : elemB Try.prog 177 1 8 = true := by kernel_rfl
theorem us177 : (Try.prog.underlying 177).isSome = true := by kernel_rfl
theorem sc178 : scalarB Try.prog 178 = true := by kernel_rfl
theorem sz178 : sizeB Try.prog 178 1 = true := by kernel_rfl
theorem zb178 : zeroB Try.prog 178 = true := by kernel_rfl
theorem el178 : elemB Try.prog 178 1 8 = true := by kernel_rfl
theorem us178 : (Try.prog.underlying 178).isSome = true := by kernel_rfl
theorem sc179 : scalarB Try.prog 179 = true := by kernel_rfl
theorem sz179 : sizeB Try.prog 179 1 = true := by kernel_rfl
theorem zb179 : zeroB Try.prog 179 = true := by kernel_rfl
theorem el179 : elemB Try.prog 179 1 8 = true := by kernel_rfl
theorem us179 : (Try.prog.underlying 179).isSome = true := by kernel_rfl
theorem sc180 : scalarB Try.prog 180 = true := by kernel_rfl
theorem sz180 : sizeB Try.prog 180 1 = true := by kernel_rfl
theorem zb180 : zeroB Try.prog 180 = true := by kernel_rfl
theorem el180 : elemB Try.prog 180 1 8 = true := by kernel_rfl
theorem us180 : (Try.prog.underlying 180).isSome = true := by kernel_rfl
theorem sc181 : scalarB Try.prog 181 = true := by kernel_rfl
theorem sz181 : sizeB Try.prog 181 1 = true := by kernel_rfl
theorem zb181 : zeroB Try.prog 181 = true := by kernel_rfl
theorem el181 : elemB Try.prog 181 1 24 = true := by kernel_rfl
theorem us181 : (Try.prog.underlying 181).isSome = true := by kernel_rfl
theorem ag182 : aggB Try.prog 182 2 = true := by kernel_rfl
theorem sz182 : sizeB Try.prog 182 2 = true := by kernel_rfl
theorem fl182_0 : fieldB Try.prog 182 0 0 = true := by kernel_rfl
theorem fl182_1 : fieldB Try.prog 182 1 1 = true := by kernel_rfl
theorem zb182 : zeroB Try.prog 182 = true := by kernel_rfl
theorem el182 : elemB Try.prog 182 2 32 = true := by kernel_rfl
theorem us182 : (Try.prog.underlying 182).isSome = true := by kernel_rfl
theorem ag183 : aggB Try.prog 183 2 = true := by kernel_rfl
theorem sz183 : sizeB Try.prog 183 2 = true := by kernel_rfl
theorem fl183_0 : fieldB Try.prog 183 0 0 = true := by kernel_rfl
theorem fl183_1 : fieldB Try.prog 183 1 1 = true := by kernel_rfl
theorem zb183 : zeroB Try.prog 183 = true := by kernel_rfl
theorem el183 : elemB Try.prog 183 2 32 = true := by kernel_rfl
theorem us183 : (Try.prog.underlying 183).isSome = true := by kernel_rfl
theorem ag184 : aggB Try.prog 184 5 = true := by kernel_rfl
theorem sz184 : sizeB Try.prog 184 5 = true := by kernel_rfl
theorem fl184_0 : fieldB Try.prog 184 0 0 = true := by kernel_rfl
theorem fl184_1 : fieldB Try.prog 184 1 4 = true := by kernel_rfl
theorem zb184 : zeroB Try.prog 184 = true := by kernel_rfl
theorem el184 : elemB Try.prog 184 5 88 = true := by kernel_rfl
theorem us184 : (Try.prog.underlying 184).isSome = true := by kernel_rfl
theorem ag185 : aggB Try.prog 185 5 = true := by kernel_rfl
theorem sz185 : sizeB Try.prog 185 5 = true := by kernel_rfl
theorem fl185_0 : fieldB Try.prog 185 0 0 = true := by kernel_rfl
theorem fl185_1 : fieldB Try.prog 185 1 4 = true := by kernel_rfl
theorem zb185 : zeroB Try.prog 185 = true := by kernel_rfl
theorem el185 : elemB Try.prog 185 5 88 = true := by kernel_rfl
theorem us185 : (Try.prog.underlying 185).isSome = true := by kernel_rfl
theorem sc186 : scalarB Try.prog 186 = true := by kernel_rfl
theorem sz186 : sizeB Try.prog 186 1 = true := by kernel_rfl
theorem zb186 : zeroB Try.prog 186 = true := by kernel_rfl
theorem el186 : elemB Try.prog 186 1 8 = true := by kernel_rfl
theorem us186 : (Try.prog.underlying 186).isSome = true := by kernel_rfl
theorem sc187 : scalarB Try.prog 187 = true := by kernel_rfl
theorem sz187 : sizeB Try.prog 187 1 = true := by kernel_rfl
theorem zb187 : zeroB Try.prog 187 = true := by kernel_rfl
theorem el187 : elemB Try.prog 187 1 8 = true := by kernel_rfl
theorem us187 : (Try.prog.underlying 187).isSome = true := by kernel_rfl
theorem sc188 : scalarB Try.prog 188 = true := by kernel_rfl
theorem sz188 : sizeB Try.prog 188 1 = true := by kernel_rfl
theorem zb188 : zeroB Try.prog 188 = true := by kernel_rfl
theorem el188 : elemB Try.prog 188 1 8 = true := by kernel_rfl
theorem us188 : (Try.prog.underlying 188).isSome = true := by kernel_rfl
theorem ag189 : aggB Try.prog 189 0 = true := by kernel_rfl
theorem sz189 : sizeB Try.prog 189 0 = true := by kernel_rfl
theorem us189 : (Try.prog.underlying 189).isSome = true := by kernel_rfl
theorem sc191 : scalarB Try.prog 191 = true := by kernel_rfl
theorem sz191 : sizeB Try.prog 191 1 = true := by kernel_rfl
theorem zb191 : zeroB Try.prog 191 = true := by kernel_rfl
theorem el191 : elemB Try.prog 191 1 8 = true := by kernel_rfl
theorem us191 : (Try.prog.underlying 191).isSome = true := by kernel_rfl
theorem sc193 : scalarB Try.prog 193 = true := by kernel_rfl
theorem sz193 : sizeB Try.prog 193 1 = true := by kernel_rfl
theorem zb193 : zeroB Try.prog 193 = true := by kernel_rfl
theorem el193 : elemB Try.prog 193 1 8 = true := by kernel_rfl
theorem us193 : (Try.prog.underlying 193).isSome = true := by kernel_rfl
theorem sc194 : scalarB Try.prog 194 = true := by kernel_rfl
theorem sz194 : sizeB Try.prog 194 1 = true := by kernel_rfl
theorem zb194 : zeroB Try.prog 194 = true := by kernel_rfl
theorem el194 : elemB Try.prog 194 1 8 = true := by kernel_rfl
theorem us194 : (Try.prog.underlying 194).isSome = true := by kernel_rfl
theorem sc195 : scalarB Try.prog 195 = true := by kernel_rfl
theorem sz195 : sizeB Try.prog 195 1 = true := by kernel_rfl
theorem zb195 : zeroB Try.prog 195 = true := by kernel_rfl
theorem el195 : elemB Try.prog 195 1 8 = true := by kernel_rfl
theorem us195 : (Try.prog.underlying 195).isSome = true := by kernel_rfl
theorem ag196 : aggB Try.prog 196 3 = true := by kernel_rfl
theorem sz196 : sizeB Try.prog 196 3 = true := by kernel_rfl
theorem fl196_0 : fieldB Try.prog 196 0 0 = true := by kernel_rfl
theorem fl196_1 : fieldB Try.prog 196 1 1 = true := by kernel_rfl
theorem fl196_2 : fieldB Try.prog 196 2 2 = true := by kernel_rfl
theorem zb196 : zeroB Try.prog 196 = true := by kernel_rfl
theorem el196 : elemB Try.prog 196 3 40 = true := by kernel_rfl
theorem us196 : (Try.prog.underlying 196).isSome = true := by kernel_rfl
theorem ag197 : aggB Try.prog 197 3 = true := by kernel_rfl
theorem sz197 : sizeB Try.prog 197 3 = true := by kernel_rfl
theorem fl197_0 : fieldB Try.prog 197 0 0 = true := by kernel_rfl
theorem fl197_1 : fieldB Try.prog 197 1 1 = true := by kernel_rfl
theorem fl197_2 : fieldB Try.prog 197 2 2 = true := by kernel_rfl
theorem zb197 : zeroB Try.prog 197 = true := by kernel_rfl
theorem el197 : elemB Try.prog 197 3 40 = true := by kernel_rfl
theorem us197 : (Try.prog.underlying 197).isSome = true := by kernel_rfl
theorem sc198 : scalarB Try.prog 198 = true := by kernel_rfl
theorem sz198 : sizeB Try.prog 198 1 = true := by kernel_rfl
theorem zb198 : zeroB Try.prog 198 = true := by kernel_rfl
theorem el198 : elemB Try.prog 198 1 8 = true := by kernel_rfl
theorem us198 : (Try.prog.underlying 198).isSome = true := by kernel_rfl
theorem sc199 : scalarB Try.prog 199 = true := by kernel_rfl
theorem sz199 : sizeB Try.prog 199 1 = true := by kernel_rfl
theorem zb199 : zeroB Try.prog 199 = true := by kernel_rfl
theorem el199 : elemB Try.prog 199 1 8 = true := by kernel_rfl
theorem us199 : (Try.prog.underlying 199).isSome = true := by kernel_rfl
theorem sc200 : scalarB Try.prog 200 = true := by kernel_rfl
theorem sz200 : sizeB Try.prog 200 1 = true := by kernel_rfl
theorem zb200 : zeroB Try.prog 200 = true := by kernel_rfl
theorem el200 : elemB Try.prog 200 1 8 = true := by kernel_rfl
theorem us200 : (Try.prog.underlying 200).isSome = true := by kernel_rfl
theorem sc202 : scalarB Try.prog 202 = true := by kernel_rfl
theorem sz202 : sizeB Try.prog 202 1 = true := by kernel_rfl
theorem zb202 : zeroB Try.prog 202 = true := by kernel_rfl
theorem el202 : elemB Try.prog 202 1 8 = true := by kernel_rfl
theorem us202 : (Try.prog.underlying 202).isSome = true := by kernel_rfl
theorem sc203 : scalarB Try.prog 203 = true := by kernel_rfl
theorem sz203 : sizeB Try.prog 203 1 = true := by kernel_rfl
theorem zb203 : zeroB Try.prog 203 = true := by kernel_rfl
theorem el203 : elemB Try.prog 203 1 8 = true := by kernel_rfl
theorem us203 : (Try.prog.underlying 203).isSome = true := by kernel_rfl
theorem sc204 : scalarB Try.prog 204 = true := by kernel_rfl
theorem sz204 : sizeB Try.prog 204 1 = true := by kernel_rfl
theorem zb204 : zeroB Try.prog 204 = true := by kernel_rfl
theorem el204 : elemB Try.prog 204 1 8 = true := by kernel_rfl
theorem us204 : (Try.prog.underlying 204).isSome = true := by kernel_rfl
theorem sc205 : scalarB Try.prog 205 = true := by kernel_rfl
theorem sz205 : sizeB Try.prog 205 1 = true := by kernel_rfl
theorem zb205 : zeroB Try.prog 205 = true := by kernel_rfl
theorem el205 : elemB Try.prog 205 1 8 = true := by kernel_rfl
theorem us205 : (Try.prog.underlying 205).isSome = true := by kernel_rfl
theorem sc207 : scalarB Try.prog 207 = true := by kernel_rfl
theorem sz207 : sizeB Try.prog 207 1 = true := by kernel_rfl
theorem zb207 : zeroB Try.prog 207 = true := by kernel_rfl
theorem el207 : elemB Try.prog 207 1 8 = true := by kernel_rfl
theorem us207 : (Try.prog.underlying 207).isSome = true := by kernel_rfl
theorem sc208 : scalarB Try.prog 208 = true := by kernel_rfl
theorem sz208 : sizeB Try.prog 208 1 = true := by kernel_rfl
theorem zb208 : zeroB Try.prog 208 = true := by kernel_rfl
theorem el208 : elemB Try.prog 208 1 8 = true := by kernel_rfl
theorem us208 : (Try.prog.underlying 208).isSome = true := by kernel_rfl
theorem sc209 : scalarB Try.prog 209 = true := by kernel_rfl
theorem sz209 : sizeB Try.prog 209 1 = true := by kernel_rfl
theorem zb209 : zeroB Try.prog 209 = true := by kernel_rfl
theorem el209 : elemB Try.prog 209 1 8 = true := by kernel_rfl
theorem us209 : (Try.prog.underlying 209).isSome = true := by kernel_rfl
theorem sc210 : scalarB Try.prog 210 = true := by kernel_rfl
theorem sz210 : sizeB Try.prog 210 1 = true := by kernel_rfl
theorem zb210 : zeroB Try.prog 210 = true := by kernel_rfl
theorem el210 : elemB Try.prog 210 1 24 = true := by kernel_rfl
theorem us210 : (Try.prog.underlying 210).isSome = true := by kernel_rfl
theorem sc211 : scalarB Try.prog 211 = true := by kernel_rfl
theorem sz211 : sizeB Try.prog 211 1 = true := by kernel_rfl
theorem zb211 : zeroB Try.prog 211 = true := by kernel_rfl
theorem el211 : elemB Try.prog 211 1 8 = true := by kernel_rfl
theorem us211 : (Try.prog.underlying 211).isSome = true := by kernel_rfl
theorem ag212 : aggB Try.prog 212 1 = true := by kernel_rfl
theorem sz212 : sizeB Try.prog 212 1 = true := by kernel_rfl
theorem fl212_0 : fieldB Try.prog 212 0 0 = true := by kernel_rfl
theorem zb212 : zeroB Try.prog 212 = true := by kernel_rfl
theorem el212 : elemB Try.prog 212 1 8 = true := by kernel_rfl
theorem us212 : (Try.prog.underlying 212).isSome = true := by kernel_rfl
theorem ag213 : aggB Try.prog 213 1 = true := by kernel_rfl
theorem sz213 : sizeB Try.prog 213 1 = true := by kernel_rfl
theorem fl213_0 : fieldB Try.prog 213 0 0 = true := by kernel_rfl
theorem zb213 : zeroB Try.prog 213 = true := by kernel_rfl
theorem el213 : elemB Try.prog 213 1 8 = true := by kernel_rfl
theorem us213 : (Try.prog.underlying 213).isSome = true := by kernel_rfl
theorem sc214 : scalarB Try.prog 214 = true := by kernel_rfl
theorem sz214 : sizeB Try.prog 214 1 = true := by kernel_rfl
theorem zb214 : zeroB Try.prog 214 = true := by kernel_rfl
theorem el214 : elemB Try.prog 214 1 8 = true := by kernel_rfl
theorem us214 : (Try.prog.underlying 214).isSome = true := by kernel_rfl
theorem sc215 : scalarB Try.prog 215 = true := by kernel_rfl
theorem sz215 : sizeB Try.prog 215 1 = true := by kernel_rfl
theorem zb215 : zeroB Try.prog 215 = true := by kernel_rfl
theorem el215 : elemB Try.prog 215 1 8 = true := by kernel_rfl
theorem us215 : (Try.prog.underlying 215).isSome = true := by kernel_rfl
theorem sc216 : scalarB Try.prog 216 = true := by kernel_rfl
theorem sz216 : sizeB Try.prog 216 1 = true := by kernel_rfl
theorem zb216 : zeroB Try.prog 216 = true := by kernel_rfl
theorem el216 : elemB Try.prog 216 1 8 = true := by kernel_rfl
theorem us216 : (Try.prog.underlying 216).isSome = true := by kernel_rfl
theorem sc217 : scalarB Try.prog 217 = true := by kernel_rfl
theorem sz217 : sizeB Try.prog 217 1 = true := by kernel_rfl
theorem zb217 : zeroB Try.prog 217 = true := by kernel_rfl
theorem el217 : elemB Try.prog 217 1 8 = true := by kernel_rfl
theorem us217 : (Try.prog.underlying 217).isSome = true := by kernel_rfl
theorem sc218 : scalarB Try.prog 218 = true := by kernel_rfl
theorem sz218 : sizeB Try.prog 218 1 = true := by kernel_rfl
theorem zb218 : zeroB Try.prog 218 = true := by kernel_rfl
theorem el218 : elemB Try.prog 218 1 8 = true := by kernel_rfl
theorem us218 : (Try.prog.underlying 218).isSome = true := by kernel_rfl
theorem ag219 : aggB Try.prog 219 3 = true := by kernel_rfl
theorem sz219 : sizeB Try.prog 219 3 = true := by kernel_rfl
theorem zb219 : zeroB Try.prog 219 = true := by kernel_rfl
theorem el219 : elemB Try.prog 219 3 24 = true := by kernel_rfl
theorem us219 : (Try.prog.underlying 219).isSome = true := by kernel_rfl
theorem sc220 : scalarB Try.prog 220 = true := by kernel_rfl
theorem sz220 : sizeB Try.prog 220 1 = true := by kernel_rfl
theorem zb220 : zeroB Try.prog 220 = true := by kernel_rfl
theorem el220 : elemB Try.prog 220 1 8 = true := by kernel_rfl
theorem us220 : (Try.prog.underlying 220).isSome = true := by kernel_rfl
theorem sc221 : scalarB Try.prog 221 = true := by kernel_rfl
theorem sz221 : sizeB Try.prog 221 1 = true := by kernel_rfl
theorem zb221 : zeroB Try.prog 221 = true := by kernel_rfl
theorem el221 : elemB Try.prog 221 1 8 = true := by kernel_rfl
theorem us221 : (Try.prog.underlying 221).isSome = true := by kernel_rfl
theorem ag222 : aggB Try.prog 222 2 = true := by kernel_rfl
theorem sz222 : sizeB Try.prog 222 2 = true := by kernel_rfl
theorem fl222_0 : fieldB Try.prog 222 0 0 = true := by kernel_rfl
theorem fl222_1 : fieldB Try.prog 222 1 1 = true := by kernel_rfl
theorem zb222 : zeroB Try.prog 222 = true := by kernel_rfl
theorem el222 : elemB Try.prog 222 2 16 = true := by kernel_rfl
theorem us222 : (Try.prog.underlying 222).isSome = true := by kernel_rfl
theorem ag223 : aggB Try.prog 223 2 = true := by kernel_rfl
theorem sz223 : sizeB Try.prog 223 2 = true := by kernel_rfl
theorem fl223_0 : fieldB Try.prog 223 0 0 = true := by kernel_rfl
theorem fl223_1 : fieldB Try.prog 223 1 1 = true := by kernel_rfl
theorem zb223 : zeroB Try.prog 223 = true := by kernel_rfl
theorem el223 : elemB Try.prog 223 2 16 = true := by kernel_rfl
theorem us223 : (Try.prog.underlying 223).isSome = true := by kernel_rfl
theorem ag224 : aggB Try.prog 224 2 = true := by kernel_rfl
theorem sz224 : sizeB Try.prog 224 2 = true := by kernel_rfl
theorem fl224_0 : fieldB Try.prog 224 0 0 = true := by kernel_rfl
theorem fl224_1 : fieldB Try.prog 224 1 1 = true := by kernel_rfl
theorem zb224 : zeroB Try.prog 224 = true := by kernel_rfl
theorem el224 : elemB Try.prog 224 2 16 = true := by kernel_rfl
theorem us224 : (Try.prog.underlying 224).isSome = true := by kernel_rfl
theorem ag225 : aggB Try.prog 225 2 = true := by kernel_rfl
theorem sz225 : sizeB Try.prog 225 2 = true := by kernel_rfl
theorem fl225_0 : fieldB Try.prog 225 0 0 = true := by kernel_rfl
theorem fl225_1 : fieldB Try.prog 225 1 1 = true := by kernel_rfl
theorem zb225 : zeroB Try.prog 225 = true := by kernel_rfl
theorem el225 : elemB Try.prog 225 2 16 = true := by kernel_rfl
theorem us225 : (Try.prog.underlying 225).isSome = true := by kernel_rfl
theorem sc226 : scalarB Try.prog 226 = true := by kernel_rfl
theorem sz226 : sizeB Try.prog 226 1 = true := by kernel_rfl
theorem zb226 : zeroB Try.prog 226 = true := by kernel_rfl
theorem el226 : elemB Try.prog 226 1 8 = true := by kernel_rfl
theorem us226 : (Try.prog.underlying 226).isSome = true := by kernel_rfl
theorem sc227 : scalarB Try.prog 227 = true := by kernel_rfl
theorem sz227 : sizeB Try.prog 227 1 = true := by kernel_rfl
theorem zb227 : zeroB Try.prog 227 = true := by kernel_rfl
theorem el227 : elemB Try.prog 227 1 8 = true := by kernel_rfl
theorem us227 : (Try.prog.underlying 227).isSome = true := by kernel_rfl
theorem sc228 : scalarB Try.prog 228 = true := by kernel_rfl
theorem sz228 : sizeB Try.prog 228 1 = true := by kernel_rfl
theorem zb228 : zeroB Try.prog 228 = true := by kernel_rfl
theorem el228 : elemB Try.prog 228 1 8 = true := by kernel_rfl
theorem us228 : (Try.prog.underlying 228).isSome = true := by kernel_rfl
theorem sc229 : scalarB Try.prog 229 = true := by kernel_rfl
theorem sz229 : sizeB Try.prog 229 1 = true := by kernel_rfl
theorem zb229 : zeroB Try.prog 229 = true := by kernel_rfl
theorem el229 : elemB Try.prog 229 1 8 = true := by kernel_rfl
theorem us229 : (Try.prog.underlying 229).isSome = true := by kernel_rfl
theorem sc230 : scalarB Try.prog 230 = true := by kernel_rfl
theorem sz230 : sizeB Try.prog 230 1 = true := by kernel_rfl
theorem zb230 : zeroB Try.prog 230 = true := by kernel_rfl
theorem el230 : elemB Try.prog 230 1 8 = true := by kernel_rfl
theorem us230 : (Try.prog.underlying 230).isSome = true := by kernel_rfl
theorem sc231 : scalarB Try.prog 231 = true := by kernel_rfl
theorem sz231 : sizeB Try.prog 231 1 = true := by kernel_rfl
theorem zb231 : zeroB Try.prog 231 = true := by kernel_rfl
theorem el231 : elemB Try.prog 231 1 8 = true := by kernel_rfl
theorem us231 : (Try.prog.underlying 231).isSome = true := by kernel_rfl
theorem sc232 : scalarB Try.prog 232 = true := by kernel_rfl
theorem sz232 : sizeB Try.prog 232 1 = true := by kernel_rfl
theorem zb232 : zeroB Try.prog 232 = true := by kernel_rfl
theorem el232 : elemB Try.prog 232 1 8 = true := by kernel_rfl
theorem us232 : (Try.prog.underlying 232).isSome = true := by kernel_rfl
theorem sc233 : scalarB Try.prog 233 = true := by kernel_rfl
theorem sz233 : sizeB Try.prog 233 1 = true := by kernel_rfl
theorem zb233 : zeroB Try.prog 233 = true := by kernel_rfl
theorem el233 : elemB Try.prog 233 1 8 = true := by kernel_rfl
theorem us233 : (Try.prog.underlying 233).isSome = true := by kernel_rfl
theorem sc234 : scalarB Try.prog 234 = true := by kernel_rfl
theorem sz234 : sizeB Try.prog 234 1 = true := by kernel_rfl
theorem zb234 : zeroB Try.prog 234 = true := by kernel_rfl
theorem el234 : elemB Try.prog 234 1 8 = true := by kernel_rfl
theorem us234 : (Try.prog.underlying 234).isSome = true := by kernel_rfl
theorem sc235 : scalarB Try.prog 235 = true := by kernel_rfl
theorem sz235 : sizeB Try.prog 235 1 = true := by kernel_rfl
theorem zb235 : zeroB Try.prog 235 = true := by kernel_rfl
theorem el235 : elemB Try.prog 235 1 8 = true := by kernel_rfl
theorem us235 : (Try.prog.underlying 235).isSome = true := by kernel_rfl
theorem sc236 : scalarB Try.prog 236 = true := by kernel_rfl
theorem sz236 : sizeB Try.prog 236 1 = true := by kernel_rfl
theorem zb236 : zeroB Try.prog 236 = true := by kernel_rfl
theorem el236 : elemB Try.prog 236 1 8 = true := by kernel_rfl
theorem us236 : (Try.prog.underlying 236).isSome = true := by kernel_rfl
theorem sc237 : scalarB Try.prog 237 = true := by kernel_rfl
theorem sz237 : sizeB Try.prog 237 1 = true := by kernel_rfl
theorem zb237 : zeroB Try.prog 237 = true := by kernel_rfl
theorem el237 : elemB Try.prog 237 1 8 = true := by kernel_rfl
theorem us237 : (Try.prog.underlying 237).isSome = true := by kernel_rfl
theorem sc238 : scalarB Try.prog 238 = true := by kernel_rfl
theorem sz238 : sizeB Try.prog 238 1 = true := by kernel_rfl
theorem zb238 : zeroB Try.prog 238 = true := by kernel_rfl
theorem el238 : elemB Try.prog 238 1 8 = true := by kernel_rfl
theorem us238 : (Try.prog.underlying 238).isSome = true := by kernel_rfl
theorem sc239 : scalarB Try.prog 239 = true := by kernel_rfl
theorem sz239 : sizeB Try.prog 239 1 = true := by kernel_rfl
theorem zb239 : zeroB Try.prog 239 = true := by kernel_rfl
theorem el239 : elemB Try.prog 239 1 8 = true := by kernel_rfl
theorem us239 : (Try.prog.underlying 239).isSome = true := by kernel_rfl
theorem sc240 : scalarB Try.prog 240 = true := by kernel_rfl
theorem sz240 : sizeB Try.prog 240 1 = true := by kernel_rfl
theorem zb240 : zeroB Try.prog 240 = true := by kernel_rfl
theorem el240 : elemB Try.prog 240 1 8 = true := by kernel_rfl
theorem us240 : (Try.prog.underlying 240).isSome = true := by kernel_rfl
theorem sc241 : scalarB Try.prog 241 = true := by kernel_rfl
theorem sz241 : sizeB Try.prog 241 1 = true := by kernel_rfl
theorem zb241 : zeroB Try.prog 241 = true := by kernel_rfl
theorem el241 : elemB Try.prog 241 1 8 = true := by kernel_rfl
theorem us241 : (Try.prog.underlying 241).isSome = true := by kernel_rfl
theorem sc242 : scalarB Try.prog 242 = true := by kernel_rfl
theorem sz242 : sizeB Try.prog 242 1 = true := by kernel_rfl
theorem zb242 : zeroB Try.prog 242 = true := by kernel_rfl
theorem el242 : elemB Try.prog 242 1 8 = true := by kernel_rfl
theorem us242 : (Try.prog.underlying 242).isSome = true := by kernel_rfl
theorem sc243 : scalarB Try.prog 243 = true := by kernel_rfl
theorem sz243 : sizeB Try.prog 243 1 = true := by kernel_rfl
theorem zb243 : zeroB Try.prog 243 = true := by kernel_rfl
theorem el243 : elemB Try.prog 243 1 8 = true := by kernel_rfl
theorem us243 : (Try.prog.underlying 243).isSome = true := by kernel_rfl
theorem sc244 : scalarB Try.prog 244 = true := by kernel_rfl
theorem sz244 : sizeB Try.prog 244 1 = true := by kernel_rfl
theorem zb244 : zeroB Try.prog 244 = true := by kernel_rfl
theorem el244 : elemB Try.prog 244 1 8 = true := by kernel_rfl
theorem us244 : (Try.prog.underlying 244).isSome = true := by kernel_rfl
theorem sc245 : scalarB Try.prog 245 = true := by kernel_rfl
theorem sz245 : sizeB Try.prog 245 1 = true := by kernel_rfl
theorem zb245 : zeroB Try.prog 245 = true := by kernel_rfl
theorem el245 : elemB Try.prog 245 1 8 = true := by kernel_rfl
theorem us245 : (Try.prog.underlying 245).isSome = true := by kernel_rfl
theorem sc246 : scalarB Try.prog 246 = true := by kernel_rfl
theorem sz246 : sizeB Try.prog 246 1 = true := by kernel_rfl
theorem zb246 : zeroB Try.prog 246 = true := by kernel_rfl
theorem el246 : elemB Try.prog 246 1 8 = true := by kernel_rfl
theorem us246 : (Try.prog.underlying 246).isSome = true := by kernel_rfl
theorem sc247 : scalarB Try.prog 247 = true := by kernel_rfl
theorem sz247 : sizeB Try.prog 247 1 = true := by kernel_rfl
theorem zb247 : zeroB Try.prog 247 = true := by kernel_rfl
theorem el247 : elemB Try.prog 247 1 8 = true := by kernel_rfl
theorem us247 : (Try.prog.underlying 247).isSome = true := by kernel_rfl
theorem sc248 : scalarB Try.prog 248 = true := by kernel_rfl
theorem sz248 : sizeB Try.prog 248 1 = true := by kernel_rfl
theorem zb248 : zeroB Try.prog 248 = true := by kernel_rfl
theorem el248 : elemB Try.prog 248 1 8 = true := by kernel_rfl
theorem us248 : (Try.prog.underlying 248).isSome = true := by kernel_rfl
theorem sc249 : scalarB Try.prog 249 = true := by kernel_rfl
theorem sz249 : sizeB Try.prog 249 1 = true := by kernel_rfl
theorem zb249 : zeroB Try.prog 249 = true := by kernel_rfl
theorem el249 : elemB Try.prog 249 1 8 = true := by kernel_rfl
theorem us249 : (Try.prog.underlying 249).isSome = true := by kernel_rfl
theorem sc250 : scalarB Try.prog 250 = true := by kernel_rfl
theorem sz250 : sizeB Try.prog 250 1 = true := by kernel_rfl
theorem zb250 : zeroB Try.prog 250 = true := by kernel_rfl
theorem el250 : elemB Try.prog 250 1 8 = true := by kernel_rfl
theorem us250 : (Try.prog.underlying 250).isSome = true := by kernel_rfl
theorem sc251 : scalarB Try.prog 251 = true := by kernel_rfl
theorem sz251 : sizeB Try.prog 251 1 = true := by kernel_rfl
theorem zb251 : zeroB Try.prog 251 = true := by kernel_rfl
theorem el251 : elemB Try.prog 251 1 8 = true := by kernel_rfl
theorem us251 : (Try.prog.underlying 251).isSome = true := by kernel_rfl
theorem sc252 : scalarB Try.prog 252 = true := by kernel_rfl
theorem sz252 : sizeB Try.prog 252 1 = true := by kernel_rfl
theorem zb252 : zeroB Try.prog 252 = true := by kernel_rfl
theorem el252 : elemB Try.prog 252 1 8 = true := by kernel_rfl
theorem us252 : (Try.prog.underlying 252).isSome = true := by kernel_rfl
theorem sc253 : scalarB Try.prog 253 = true := by kernel_rfl
theorem sz253 : sizeB Try.prog 253 1 = true := by kernel_rfl
theorem zb253 : zeroB Try.prog 253 = true := by kernel_rfl
theorem el253 : elemB Try.prog 253 1 8 = true := by kernel_rfl
theorem us253 : (Try.prog.underlying 253).isSome = true := by kernel_rfl
theorem sc254 : scalarB Try.prog 254 = true := by kernel_rfl
theorem sz254 : sizeB Try.prog 254 1 = true := by kernel_rfl
theorem zb254 : zeroB Try.prog 254 = true := by kernel_rfl
theorem el254 : elemB Try.prog 254 1 8 = true := by kernel_rfl
theorem us254 : (Try.prog.underlying 254).isSome = true := by kernel_rfl
theorem sc255 : scalarB Try.prog 255 = true := by kernel_rfl
theorem sz255 : sizeB Try.prog 255 1 = true := by kernel_rfl
theorem zb255 : zeroB Try.prog 255 = true := by kernel_rfl
theorem el255 : elemB Try.prog 255 1 8 = true := by kernel_rfl
theorem us255 : (Try.prog.underlying 255).isSome = true := by kernel_rfl
theorem sc256 : scalarB Try.prog 256 = true := by kernel_rfl
theorem sz256 : sizeB Try.prog 256 1 = true := by kernel_rfl
theorem zb256 : zeroB Try.prog 256 = true := by kernel_rfl
theorem el256 : elemB Try.prog 256 1 8 = true := by kernel_rfl
theorem us256 : (Try.prog.underlying 256).isSome = true := by kernel_rfl
theorem sc257 : scalarB Try.prog 257 = true := by kernel_rfl
theorem sz257 : sizeB Try.prog 257 1 = true := by kernel_rfl
theorem zb257 : zeroB Try.prog 257 = true := by kernel_rfl
theorem el257 : elemB Try.prog 257 1 8 = true := by kernel_rfl
theorem us257 : (Try.prog.underlying 257).isSome = true := by kernel_rfl
theorem sc258 : scalarB Try.prog 258 = true := by kernel_rfl
theorem sz258 : sizeB Try.prog 258 1 = true := by kernel_rfl
theorem zb258 : zeroB Try.prog 258 = true := by kernel_rfl
theorem el258 : elemB Try.prog 258 1 8 = true := by kernel_rfl
theorem us258 : (Try.prog.underlying 258).isSome = true := by kernel_rfl
theorem sc259 : scalarB Try.prog 259 = true := by kernel_rfl
theorem sz259 : sizeB Try.prog 259 1 = true := by kernel_rfl
theorem zb259 : zeroB Try.prog 259 = true := by kernel_rfl
theorem el259 : elemB Try.prog 259 1 8 = true := by kernel_rfl
theorem us259 : (Try.prog.underlying 259).isSome = true := by kernel_rfl
theorem sc261 : scalarB Try.prog 261 = true := by kernel_rfl
theorem sz261 : sizeB Try.prog 261 1 = true := by kernel_rfl
theorem zb261 : zeroB Try.prog 261 = true := by kernel_rfl
theorem el261 : elemB Try.prog 261 1 8 = true := by kernel_rfl
theorem us261 : (Try.prog.underlying 261).isSome = true := by kernel_rfl
theorem sc262 : scalarB Try.prog 262 = true := by kernel_rfl
theorem sz262 : sizeB Try.prog 262 1 = true := by kernel_rfl
theorem zb262 : zeroB Try.prog 262 = true := by kernel_rfl
theorem el262 : elemB Try.prog 262 1 8 = true := by kernel_rfl
theorem us262 : (Try.prog.underlying 262).isSome = true := by kernel_rfl
theorem sc263 : scalarB Try.prog 263 = true := by kernel_rfl
theorem sz263 : sizeB Try.prog 263 1 = true := by kernel_rfl
theorem zb263 : zeroB Try.prog 263 = true := by kernel_rfl
theorem el263 : elemB Try.prog 263 1 8 = true := by kernel_rfl
theorem us263 : (Try.prog.underlying 263).isSome = true := by kernel_rfl
theorem sc264 : scalarB Try.prog 264 = true := by kernel_rfl
theorem sz264 : sizeB Try.prog 264 1 = true := by kernel_rfl
theorem zb264 : zeroB Try.prog 264 = true := by kernel_rfl
theorem el264 : elemB Try.prog 264 1 8 = true := by kernel_rfl
theorem us264 : (Try.prog.underlying 264).isSome = true := by kernel_rfl
theorem sc265 : scalarB Try.prog 265 = true := by kernel_rfl
theorem sz265 : sizeB Try.prog 265 1 = true := by kernel_rfl
theorem zb265 : zeroB Try.prog 265 = true := by kernel_rfl
theorem el265 : elemB Try.prog 265 1 8 = true := by kernel_rfl
theorem us265 : (Try.prog.underlying 265).isSome = true := by kernel_rfl
theorem sc266 : scalarB Try.prog 266 = true := by kernel_rfl
theorem sz266 : sizeB Try.prog 266 1 = true := by kernel_rfl
theorem zb266 : zeroB Try.prog 266 = true := by kernel_rfl
theorem el266 : elemB Try.prog 266 1 4 = true := by kernel_rfl
theorem us266 : (Try.prog.underlying 266).isSome = true := by kernel_rfl
theorem sc267 : scalarB Try.prog 267 = true := by kernel_rfl
theorem sz267 : sizeB Try.prog 267 1 = true := by kernel_rfl
theorem zb267 : zeroB Try.prog 267 = true := by kernel_rfl
theorem el267 : elemB Try.prog 267 1 8 = true := by kernel_rfl
theorem us267 : (Try.prog.underlying 267).isSome = true := by kernel_rfl
theorem sc268 : scalarB Try.prog 268 = true := by kernel_rfl
theorem sz268 : sizeB Try.prog 268 1 = true := by kernel_rfl
theorem zb268 : zeroB Try.prog 268 = true := by kernel_rfl
theorem el268 : elemB Try.prog 268 1 8 = true := by kernel_rfl
theorem us268 : (Try.prog.underlying 268).isSome = true := by kernel_rfl
theorem sc269 : scalarB Try.prog 269 = true := by kernel_rfl
theorem sz269 : sizeB Try.prog 269 1 = true := by kernel_rfl
theorem zb269 : zeroB Try.prog 269 = true := by kernel_rfl
theorem el269 : elemB Try.prog 269 1 8 = true := by kernel_rfl
theorem us269 : (Try.prog.underlying 269).isSome = true := by kernel_rfl
theorem sc270 : scalarB Try.prog 270 = true := by kernel_rfl
theorem sz270 : sizeB Try.prog 270 1 = true := by kernel_rfl
theorem zb270 : zeroB Try.prog 270 = true := by kernel_rfl
theorem el270 : elemB Try.prog 270 1 8 = true := by kernel_rfl
theorem us270 : (Try.prog.underlying 270).isSome = true := by kernel_rfl
theorem sc271 : scalarB Try.prog 271 = true := by kernel_rfl
theorem sz271 : sizeB Try.prog 271 1 = true := by kernel_rfl
theorem zb271 : zeroB Try.prog 271 = true := by kernel_rfl
theorem el271 : elemB Try.prog 271 1 8 = true := by kernel_rfl
theorem us271 : (Try.prog.underlying 271).isSome = true := by kernel_rfl
theorem sc272 : scalarB Try.prog 272 = true := by kernel_rfl
theorem sz272 : sizeB Try.prog 272 1 = true := by kernel_rfl
theorem zb272 : zeroB Try.prog 272 = true := by kernel_rfl
theorem el272 : elemB Try.prog 272 1 8 = true := by kernel_rfl
theorem us272 : (Try.prog.underlying 272).isSome = true := by kernel_rfl
theorem sc273 : scalarB Try.prog 273 = true := by kernel_rfl
theorem sz273 : sizeB Try.prog 273 1 = true := by kernel_rfl
theorem zb273 : zeroB Try.prog 273 = true := by kernel_rfl
theorem el273 : elemB Try.prog 273 1 8 = true := by kernel_rfl
theorem us273 : (Try.prog.underlying 273).isSome = true := by kernel_rfl
theorem sc274 : scalarB Try.prog 274 = true := by kernel_rfl
theorem sz274 : sizeB Try.prog 274 1 = true := by kernel_rfl
theorem zb274 : zeroB Try.prog 274 = true := by kernel_rfl
theorem el274 : elemB Try.prog 274 1 8 = true := by kernel_rfl
theorem us274 : (Try.prog.underlying 274).isSome = true := by kernel_rfl
theorem sc275 : scalarB Try.prog 275 = true := by kernel_rfl
theorem sz275 : sizeB Try.prog 275 1 = true := by kernel_rfl
theorem zb275 : zeroB Try.prog 275 = true := by kernel_rfl
theorem el275 : elemB Try.prog 275 1 8 = true := by kernel_rfl
theorem us275 : (Try.prog.underlying 275).isSome = true := by kernel_rfl
theorem sc276 : scalarB Try.prog 276 = true := by kernel_rfl
theorem sz276 : sizeB Try.prog 276 1 = true := by kernel_rfl
theorem zb276 : zeroB Try.prog 276 = true := by kernel_rfl
theorem el276 : elemB Try.prog 276 1 8 = true := by kernel_rfl
theorem us276 : (Try.prog.underlying 276).isSome = true := by kernel_rfl
theorem sc277 : scalarB Try.prog 277 = true := by kernel_rfl
theorem sz277 : sizeB Try.prog 277 1 = true := by kernel_rfl
theorem zb277 : zeroB Try.prog 277 = true := by kernel_rfl
theorem el277 : elemB Try.prog 277 1 8 = true := by kernel_rfl
theorem us277 : (Try.prog.underlying 277).isSome = true := by kernel_rfl
theorem sc278 : scalarB Try.prog 278 = true := by kernel_rfl
theorem sz278 : sizeB Try.prog 278 1 = true := by kernel_rfl
theorem zb278 : zeroB Try.prog 278 = true := by kernel_rfl
theorem el278 : elemB Try.prog 278 1 8 = true := by kernel_rfl
theorem us278 : (Try.prog.underlying 278).isSome = true := by kernel_rfl
theorem sc279 : scalarB Try.prog 279 = true := by kernel_rfl
theorem sz279 : sizeB Try.prog 279 1 = true := by kernel_rfl
theorem zb279 : zeroB Try.prog 279 = true := by kernel_rfl
theorem el279 : elemB Try.prog 279 1 8 = true := by kernel_rfl
theorem us279 : (Try.prog.underlying 279).isSome = true := by kernel_rfl
theorem sc280 : scalarB Try.prog 280 = true := by kernel_rfl
theorem sz280 : sizeB Try.prog 280 1 = true := by kernel_rfl
theorem zb280 : zeroB Try.prog 280 = true := by kernel_rfl
theorem el280 : elemB Try.prog 280 1 8 = true := by kernel_rfl
theorem us280 : (Try.prog.underlying 280).isSome = true := by kernel_rfl
theorem sc281 : scalarB Try.prog 281 = true := by kernel_rfl
theorem sz281 : sizeB Try.prog 281 1 = true := by kernel_rfl
theorem zb281 : zeroB Try.prog 281 = true := by kernel_rfl
theorem el281 : elemB Try.prog 281 1 8 = true := by kernel_rfl
theorem us281 : (Try.prog.underlying 281).isSome = true := by kernel_rfl
theorem sc282 : scalarB Try.prog 282 = true := by kernel_rfl
theorem sz282 : sizeB Try.prog 282 1 = true := by kernel_rfl
theorem zb282 : zeroB Try.prog 282 = true := by kernel_rfl
theorem el282 : elemB Try.prog 282 1 8 = true := by kernel_rfl
theorem us282 : (Try.prog.underlying 282).isSome = true := by kernel_rfl
theorem sc283 : scalarB Try.prog 283 = true := by kernel_rfl
theorem sz283 : sizeB Try.prog 283 1 = true := by kernel_rfl
theorem zb283 : zeroB Try.prog 283 = true := by kernel_rfl
theorem el283 : elemB Try.prog 283 1 8 = true := by kernel_rfl
theorem us283 : (Try.prog.underlying 283).isSome = true := by kernel_rfl
theorem sc284 : scalarB Try.prog 284 = true := by kernel_rfl
theorem sz284 : sizeB Try.prog 284 1 = true := by kernel_rfl
theorem zb284 : zeroB Try.prog 284 = true := by kernel_rfl
theorem el284 : elemB Try.prog 284 1 8 = true := by kernel_rfl
theorem us284 : (Try.prog.underlying 284).isSome = true := by kernel_rfl
theorem sc285 : scalarB Try.prog 285 = true := by kernel_rfl
theorem sz285 : sizeB Try.prog 285 1 = true := by kernel_rfl
theorem zb285 : zeroB Try.prog 285 = true := by kernel_rfl
theorem el285 : elemB Try.prog 285 1 8 = true := by kernel_rfl
theorem us285 : (Try.prog.underlying 285).isSome = true := by kernel_rfl
theorem sc286 : scalarB Try.prog 286 = true := by kernel_rfl
theorem sz286 : sizeB Try.prog 286 1 = true := by kernel_rfl
theorem zb286 : zeroB Try.prog 286 = true := by kernel_rfl
theorem el286 : elemB Try.prog 286 1 8 = true := by kernel_rfl
theorem us286 : (Try.prog.underlying 286).isSome = true := by kernel_rfl
theorem ag287 : aggB Try.prog 287 4 = true := by kernel_rfl
theorem sz287 : sizeB Try.prog 287 4 = true := by kernel_rfl
theorem fl287_0 : fieldB Try.prog 287 0 0 = true := by kernel_rfl
theorem fl287_1 : fieldB Try.prog 287 1 1 = true := by kernel_rfl
theorem fl287_2 : fieldB Try.prog 287 2 2 = true := by kernel_rfl
theorem fl287_3 : fieldB Try.prog 287 3 3 = true := by kernel_rfl
theorem zb287 : zeroB Try.prog 287 = true := by kernel_rfl
theorem el287 : elemB Try.prog 287 4 40 = true := by kernel_rfl
theorem us287 : (Try.prog.underlying 287).isSome = true := by kernel_rfl
theorem ag288 : aggB Try.prog 288 4 = true := by kernel_rfl
theorem sz288 : sizeB Try.prog 288 4 = true := by kernel_rfl
theorem fl288_0 : fieldB Try.prog 288 0 0 = true := by kernel_rfl
theorem fl288_1 : fieldB Try.prog 288 1 1 = true := by kernel_rfl
theorem fl288_2 : fieldB Try.prog 288 2 2 = true := by kernel_rfl
theorem fl288_3 : fieldB Try.prog 288 3 3 = true := by kernel_rfl
theorem zb288 : zeroB Try.prog 288 = true := by kernel_rfl
theorem el288 : elemB Try.prog 288 4 40 = true := by kernel_rfl
theorem us288 : (Try.prog.underlying 288).isSome = true := by kernel_rfl
theorem ag289 : aggB Try.prog 289 0 = true := by kernel_rfl
theorem sz289 : sizeB Try.prog 289 0 = true := by kernel_rfl
theorem us289 : (Try.prog.underlying 289).isSome = true := by kernel_rfl
theorem ag290 : aggB Try.prog 290 0 = true := by kernel_rfl
theorem sz290 : sizeB Try.prog 290 0 = true := by kernel_rfl
theorem us290 : (Try.prog.underlying 290).isSome = true := by kernel_rfl
theorem ag291 : aggB Try.prog 291 0 = true := by kernel_rfl
theorem sz291 : sizeB Try.prog 291 0 = true := by kernel_rfl
theorem us291 : (Try.prog.underlying 291).isSome = true := by kernel_rfl
theorem sc292 : scalarB Try.prog 292 = true := by kernel_rfl
theorem sz292 : sizeB Try.prog 292 1 = true := by kernel_rfl
theorem zb292 : zeroB Try.prog 292 = true := by kernel_rfl
theorem el292 : elemB Try.prog 292 1 1 = true := by kernel_rfl
theorem us292 : (Try.prog.underlying 292).isSome = true := by kernel_rfl
theorem sc293 : scalarB Try.prog 293 = true := by kernel_rfl
theorem sz293 : sizeB Try.prog 293 1 = true := by kernel_rfl
theorem zb293 : zeroB Try.prog 293 = true := by kernel_rfl
theorem el293 : elemB Try.prog 293 1 1 = true := by kernel_rfl
theorem us293 : (Try.prog.underlying 293).isSome = true := by kernel_rfl
theorem sc294 : scalarB Try.prog 294 = true := by kernel_rfl
theorem sz294 : sizeB Try.prog 294 1 = true := by kernel_rfl
theorem zb294 : zeroB Try.prog 294 = true := by kernel_rfl
theorem el294 : elemB Try.prog 294 1 8 = true := by kernel_rfl
theorem us294 : (Try.prog.underlying 294).isSome = true := by kernel_rfl
theorem sc295 : scalarB Try.prog 295 = true := by kernel_rfl
theorem sz295 : sizeB Try.prog 295 1 = true := by kernel_rfl
theorem zb295 : zeroB Try.prog 295 = true := by kernel_rfl
theorem el295 : elemB Try.prog 295 1 8 = true := by kernel_rfl
theorem us295 : (Try.prog.underlying 295).isSome = true := by kernel_rfl
theorem sc296 : scalarB Try.prog 296 = true := by kernel_rfl
theorem sz296 : sizeB Try.prog 296 1 = true := by kernel_rfl
theorem zb296 : zeroB Try.prog 296 = true := by kernel_rfl
theorem el296 : elemB Try.prog 296 1 4 = true := by kernel_rfl
theorem us296 : (Try.prog.underlying 296).isSome = true := by kernel_rfl
theorem sc297 : scalarB Try.prog 297 = true := by kernel_rfl
theorem sz297 : sizeB Try.prog 297 1 = true := by kernel_rfl
theorem zb297 : zeroB Try.prog 297 = true := by kernel_rfl
theorem el297 : elemB Try.prog 297 1 4 = true := by kernel_rfl
theorem us297 : (Try.prog.underlying 297).isSome = true := by kernel_rfl
theorem ag298 : aggB Try.prog 298 11 = true := by kernel_rfl
theorem sz298 : sizeB Try.prog 298 11 = true := by kernel_rfl
theorem fl298_0 : fieldB Try.prog 298 0 0 = true := by kernel_rfl
theorem fl298_1 : fieldB Try.prog 298 1 1 = true := by kernel_rfl
theorem fl298_2 : fieldB Try.prog 298 2 2 = true := by kernel_rfl
theorem fl298_3 : fieldB Try.prog 298 3 3 = true := by kernel_rfl
theorem fl298_4 : fieldB Try.prog 298 4 4 = true := by kernel_rfl
theorem fl298_5 : fieldB Try.prog 298 5 5 = true := by kernel_rfl
theorem fl298_6 : fieldB Try.prog 298 6 6 = true := by kernel_rfl
theorem fl298_7 : fieldB Try.prog 298 7 7 = true := by kernel_rfl
theorem fl298_8 : fieldB Try.prog 298 8 8 = true := by kernel_rfl
theorem fl298_9 : fieldB Try.prog 298 9 9 = true := by kernel_rfl
theorem fl298_10 : fieldB Try.prog 298 10 10 = true := by kernel_rfl
theorem zb298 : zeroB Try.prog 298 = true := by kernel_rfl
theorem el298 : elemB Try.prog 298 11 48 = true := by kernel_rfl
theorem us298 : (Try.prog.underlying 298).isSome = true := by kernel_rfl
theorem ag299 : aggB Try.prog 299 11 = true := by kernel_rfl
theorem sz299 : sizeB Try.prog 299 11 = true := by kernel_rfl
theorem fl299_0 : fieldB Try.prog 299 0 0 = true := by kernel_rfl
theorem fl299_1 : fieldB Try.prog 299 1 1 = true := by kernel_rfl
theorem fl299_2 : fieldB Try.prog 299 2 2 = true := by kernel_rfl
theorem fl299_3 : fieldB Try.prog 299 3 3 = true := by kernel_rfl
theorem fl299_4 : fieldB Try.prog 299 4 4 = true := by kernel_rfl
theorem fl299_5 : fieldB Try.prog 299 5 5 = true := by kernel_rfl
theorem fl299_6 : fieldB Try.prog 299 6 6 = true := by kernel_rfl
theorem fl299_7 : fieldB Try.prog 299 7 7 = true := by kernel_rfl
theorem fl299_8 : fieldB Try.prog 299 8 8 = true := by kernel_rfl
theorem fl299_9 : fieldB Try.prog 299 9 9 = true := by kernel_rfl
theorem fl299_10 : fieldB Try.prog 299 10 10 = true := by kernel_rfl
theorem zb299 : zeroB Try.prog 299 = true := by kernel_rfl
theorem el299 : elemB Try.prog 299 11 48 = true := by kernel_rfl
theorem us299 : (Try.prog.underlying 299).isSome = true := by kernel_rfl
theorem eq27 (a0 b0 : Int) (a1 b1 : Int) : ∀ w, (Op.equalIn 10000 27 (.agg #[.int .i64 a0, .int .i64 a1]) (.agg #[.int .i64 b0, .int .i64 b1])).run Try.prog w = .ok ((a0 == b0) && (a1 == b1)) w := by
  intro w
  go_simp
  (repeat' split) <;> simp_all
theorem eq30 (a0 b0 : Int) (a1 b1 : Int) (a2 b2 : Int) (a3 b3 : Int) : ∀ w, (Op.equalIn 10000 30 (.agg #[.int .u8 a0, .int .i64 a1, .int .i64 a2, .int .i64 a3]) (.agg #[.int .u8 b0, .int .i64 b1, .int .i64 b2, .int .i64 b3])).run Try.prog w = .ok ((a0 == b0) && (a1 == b1) && (a2 == b2) && (a3 == b3)) w := by
  intro w
  go_simp
  (repeat' split) <;> simp_all
theorem eq66 (a0 b0 : Int) (a1 b1 : Int) : ∀ w, (Op.equalIn 10000 66 (.agg #[.int .i64 a0, .int .i64 a1]) (.agg #[.int .i64 b0, .int .i64 b1])).run Try.prog w = .ok ((a0 == b0) && (a1 == b1)) w := by
  intro w
  go_simp
  (repeat' split) <;> simp_all
theorem eq75 (a0 b0 : Int) (a1 b1 : Int) : ∀ w, (Op.equalIn 10000 75 (.agg #[.int .i64 a0, .int .i64 a1]) (.agg #[.int .i64 b0, .int .i64 b1])).run Try.prog w = .ok ((a0 == b0) && (a1 == b1)) w := by
  intro w
  go_simp
  (repeat' split) <;> simp_all
theorem eq97 (a0 b0 : Int) (a1 b1 : Int) (a2 b2 : Int) (a3 b3 : Int) (a4 b4 : Bool) : ∀ w, (Op.equalIn 10000 97 (.agg #[.int .u64 a0, .int .i64 a1, .int .u64 a2, .int .u64 a3, .bool a4]) (.agg #[.int .u64 b0, .int .i64 b1, .int .u64 b2, .int .u64 b3, .bool b4])).run Try.prog w = .ok ((a0 == b0) && (a1 == b1) && (a2 == b2) && (a3 == b3) && (a4 == b4)) w := by
  intro w
  go_simp
  (repeat' split) <;> simp_all
theorem eq122 (a0 b0 : Int) (a1 b1 : Int) (a2 b2 : Int) (a3 b3 : Int) : ∀ w, (Op.equalIn 10000 122 (.agg #[.int .i64 a0, .int .i64 a1, .int .i64 a2, .int .i64 a3]) (.agg #[.int .i64 b0, .int .i64 b1, .int .i64 b2, .int .i64 b3])).run Try.prog w = .ok ((a0 == b0) && (a1 == b1) && (a2 == b2) && (a3 == b3)) w := by
  intro w
  go_simp
  (repeat' split) <;> simp_all
theorem eq142 (a0 b0 : ByteArray) (a1 b1 : Int) (a2 b2 : Int) (a3 b3 : Int) (a4 b4 : Int) (a5 b5 : Int) (a6 b6 : Int) : ∀ w, (Op.equalIn 10000 142 (.agg #[.string a0, .int .i64 a1, .int .i64 a2, .int .i64 a3, .int .i64 a4, .int .i64 a5, .int .i64 a6]) (.agg #[.string b0, .int .i64 b1, .int .i64 b2, .int .i64 b3, .int .i64 b4, .int .i64 b5, .int .i64 b6])).run Try.prog w = .ok ((a0.toList == b0.toList) && (a1 == b1) && (a2 == b2) && (a3 == b3) && (a4 == b4) && (a5 == b5) && (a6 == b6)) w := by
  intro w
  go_simp
  (repeat' split) <;> simp_all
theorem eq152 (a0 b0 : Int) (a1 b1 : Int) (a2 b2 : Int) : ∀ w, (Op.equalIn 10000 152 (.agg #[.int .u8 a0, .int .u64 a1, .int .u64 a2]) (.agg #[.int .u8 b0, .int .u64 b1, .int .u64 b2])).run Try.prog w = .ok ((a0 == b0) && (a1 == b1) && (a2 == b2)) w := by
  intro w
  go_simp
  (repeat' split) <;> simp_all
theorem eq169 (a0 b0 : Int) (a1 b1 : Int) : ∀ w, (Op.equalIn 10000 169 (.agg #[.int .i64 a0, .int .i64 a1]) (.agg #[.int .i64 b0, .int .i64 b1])).run Try.prog w = .ok ((a0 == b0) && (a1 == b1)) w := by
  intro w
  go_simp
  (repeat' split) <;> simp_all
theorem eq225 (a0 b0 : Int) (a1 b1 : Int) : ∀ w, (Op.equalIn 10000 225 (.agg #[.int .u8 a0, .int .u64 a1]) (.agg #[.int .u8 b0, .int .u64 b1])).run Try.prog w = .ok ((a0 == b0) && (a1 == b1)) w := by
  intro w
  go_simp
  (repeat' split) <;> simp_all
theorem nm2 : nameB Try.prog 2 = true := by kernel_rfl
theorem nm3 : nameB Try.prog 3 = true := by kernel_rfl
theorem nm4 : nameB Try.prog 4 = true := by kernel_rfl
theorem nm5 : nameB Try.prog 5 = true := by kernel_rfl
theorem nm6 : nameB Try.prog 6 = true := by kernel_rfl
theorem nm7 : nameB Try.prog 7 = true := by kernel_rfl
theorem nm8 : nameB Try.prog 8 = true := by kernel_rfl
theorem nm9 : nameB Try.prog 9 = true := by kernel_rfl
theorem nm10 : nameB Try.prog 10 = true := by kernel_rfl
theorem nm11 : nameB Try.prog 11 = true := by kernel_rfl
theorem nm12 : nameB Try.prog 12 = true := by kernel_rfl
theorem nm13 : nameB Try.prog 13 = true := by kernel_rfl
theorem nm14 : nameB Try.prog 14 = true := by kernel_rfl
theorem nm15 : nameB Try.prog 15 = true := by kernel_rfl
theorem nm16 : nameB Try.prog 16 = true := by kernel_rfl
theorem nm17 : nameB Try.prog 17 = true := by kernel_rfl
theorem nm18 : nameB Try.prog 18 = true := by kernel_rfl
theorem nm19 : nameB Try.prog 19 = true := by kernel_rfl
theorem nm20 : nameB Try.prog 20 = true := by kernel_rfl
theorem nm21 : nameB Try.prog 21 = true := by kernel_rfl
theorem nm22 : nameB Try.prog 22 = true := by kernel_rfl
theorem nm23 : nameB Try.prog 23 = true := by kernel_rfl
theorem nm24 : nameB Try.prog 24 = true := by kernel_rfl
theorem nm25 : nameB Try.prog 25 = true := by kernel_rfl
theorem nm26 : nameB Try.prog 26 = true := by kernel_rfl
theorem nm27 : nameB Try.prog 27 = true := by kernel_rfl
theorem nm28 : nameB Try.prog 28 = true := by kernel_rfl
theorem nm29 : nameB Try.prog 29 = true := by kernel_rfl
theorem nm30 : nameB Try.prog 30 = true := by kernel_rfl
theorem nm31 : nameB Try.prog 31 = true := by kernel_rfl
theorem nm32 : nameB Try.prog 32 = true := by kernel_rfl
theorem nm33 : nameB Try.prog 33 = true := by kernel_rfl
theorem nm34 : nameB Try.prog 34 = true := by kernel_rfl
theorem nm35 : nameB Try.prog 35 = true := by kernel_rfl
theorem nm36 : nameB Try.prog 36 = true := by kernel_rfl
theorem nm37 : nameB Try.prog 37 = true := by kernel_rfl
theorem nm38 : nameB Try.prog 38 = true := by kernel_rfl
theorem nm39 : nameB Try.prog 39 = true := by kernel_rfl
theorem nm40 : nameB Try.prog 40 = true := by kernel_rfl
theorem nm41 : nameB Try.prog 41 = true := by kernel_rfl
theorem nm42 : nameB Try.prog 42 = true := by kernel_rfl
theorem nm43 : nameB Try.prog 43 = true := by kernel_rfl
theorem nm44 : nameB Try.prog 44 = true := by kernel_rfl
theorem nm45 : nameB Try.prog 45 = true := by kernel_rfl
theorem nm46 : nameB Try.prog 46 = true := by kernel_rfl
theorem nm47 : nameB Try.prog 47 = true := by kernel_rfl
theorem nm48 : nameB Try.prog 48 = true := by kernel_rfl
theorem nm49 : nameB Try.prog 49 = true := by kernel_rfl
theorem nm50 : nameB Try.prog 50 = true := by kernel_rfl
theorem nm51 : nameB Try.prog 51 = true := by kernel_rfl
theorem nm52 : nameB Try.prog 52 = true := by kernel_rfl
theorem nm53 : nameB Try.prog 53 = true := by kernel_rfl
theorem nm54 : nameB Try.prog 54 = true := by kernel_rfl
theorem nm55 : nameB Try.prog 55 = true := by kernel_rfl
theorem nm56 : nameB Try.prog 56 = true := by kernel_rfl
theorem nm57 : nameB Try.prog 57 = true := by kernel_rfl
theorem nm58 : nameB Try.prog 58 = true := by kernel_rfl
theorem nm59 : nameB Try.prog 59 = true := by kernel_rfl
theorem nm60 : nameB Try.prog 60 = true := by kernel_rfl
theorem nm61 : nameB Try.prog 61 = true := by kernel_rfl
theorem nm62 : nameB Try.prog 62 = true := by kernel_rfl
theorem nm63 : nameB Try.prog 63 = true := by kernel_rfl
theorem nm64 : nameB Try.prog 64 = true := by kernel_rfl
theorem nm65 : nameB Try.prog 65 = true := by kernel_rfl
theorem nm66 : nameB Try.prog 66 = true := by kernel_rfl
theorem nm67 : nameB Try.prog 67 = true := by kernel_rfl
theorem nm68 : nameB Try.prog 68 = true := by kernel_rfl
theorem nm69 : nameB Try.prog 69 = true := by kernel_rfl
theorem nm70 : nameB Try.prog 70 = true := by kernel_rfl
theorem nm71 : nameB Try.prog 71 = true := by kernel_rfl
theorem nm72 : nameB Try.prog 72 = true := by kernel_rfl
theorem nm73 : nameB Try.prog 73 = true := by kernel_rfl
theorem nm74 : nameB Try.prog 74 = true := by kernel_rfl
theorem nm75 : nameB Try.prog 75 = true := by kernel_rfl
theorem nm76 : nameB Try.prog 76 = true := by kernel_rfl
theorem nm77 : nameB Try.prog 77 = true := by kernel_rfl
theorem nm78 : nameB Try.prog 78 = true := by kernel_rfl
theorem nm79 : nameB Try.prog 79 = true := by kernel_rfl
theorem nm80 : nameB Try.prog 80 = true := by kernel_rfl
theorem nm81 : nameB Try.prog 81 = true := by kernel_rfl
theorem nm82 : nameB Try.prog 82 = true := by kernel_rfl
theorem nm83 : nameB Try.prog 83 = true := by kernel_rfl
theorem nm84 : nameB Try.prog 84 = true := by kernel_rfl
theorem nm85 : nameB Try.prog 85 = true := by kernel_rfl
theorem nm86 : nameB Try.prog 86 = true := by kernel_rfl
theorem nm87 : nameB Try.prog 87 = true := by kernel_rfl
theorem nm88 : nameB Try.prog 88 = true := by kernel_rfl
theorem nm89 : nameB Try.prog 89 = true := by kernel_rfl
theorem nm90 : nameB Try.prog 90 = true := by kernel_rfl
theorem nm91 : nameB Try.prog 91 = true := by kernel_rfl
theorem nm92 : nameB Try.prog 92 = true := by kernel_rfl
theorem nm93 : nameB Try.prog 93 = true := by kernel_rfl
theorem nm94 : nameB Try.prog 94 = true := by kernel_rfl
theorem nm95 : nameB Try.prog 95 = true := by kernel_rfl
theorem nm96 : nameB Try.prog 96 = true := by kernel_rfl
theorem nm97 : nameB Try.prog 97 = true := by kernel_rfl
theorem nm98 : nameB Try.prog 98 = true := by kernel_rfl
theorem nm99 : nameB Try.prog 99 = true := by kernel_rfl
theorem nm100 : nameB Try.prog 100 = true := by kernel_rfl
theorem nm101 : nameB Try.prog 101 = true := by kernel_rfl
theorem nm102 : nameB Try.prog 102 = true := by kernel_rfl
theorem nm103 : nameB Try.prog 103 = true := by kernel_rfl
theorem nm104 : nameB Try.prog 104 = true := by kernel_rfl
theorem nm105 : nameB Try.prog 105 = true := by kernel_rfl
theorem nm106 : nameB Try.prog 106 = true := by kernel_rfl
theorem nm107 : nameB Try.prog 107 = true := by kernel_rfl
theorem nm108 : nameB Try.prog 108 = true := by kernel_rfl
theorem nm109 : nameB Try.prog 109 = true := by kernel_rfl
theorem nm110 : nameB Try.prog 110 = true := by kernel_rfl
theorem nm111 : nameB Try.prog 111 = true := by kernel_rfl
theorem nm112 : nameB Try.prog 112 = true := by kernel_rfl
theorem nm113 : nameB Try.prog 113 = true := by kernel_rfl
theorem nm114 : nameB Try.prog 114 = true := by kernel_rfl
theorem nm115 : nameB Try.prog 115 = true := by kernel_rfl
theorem nm116 : nameB Try.prog 116 = true := by kernel_rfl
theorem nm117 : nameB Try.prog 117 = true := by kernel_rfl
theorem nm118 : nameB Try.prog 118 = true := by kernel_rfl
theorem nm119 : nameB Try.prog 119 = true := by kernel_rfl
theorem nm120 : nameB Try.prog 120 = true := by kernel_rfl
theorem nm121 : nameB Try.prog 121 = true := by kernel_rfl
theorem nm122 : nameB Try.prog 122 = true := by kernel_rfl
theorem nm123 : nameB Try.prog 123 = true := by kernel_rfl
theorem nm124 : nameB Try.prog 124 = true := by kernel_rfl
theorem nm125 : nameB Try.prog 125 = true := by kernel_rfl
theorem nm126 : nameB Try.prog 126 = true := by kernel_rfl
theorem nm127 : nameB Try.prog 127 = true := by kernel_rfl
theorem nm128 : nameB Try.prog 128 = true := by kernel_rfl
theorem nm129 : nameB Try.prog 129 = true := by kernel_rfl
theorem nm130 : nameB Try.prog 130 = true := by kernel_rfl
theorem nm131 : nameB Try.prog 131 = true := by kernel_rfl
theorem nm132 : nameB Try.prog 132 = true := by kernel_rfl
theorem nm133 : nameB Try.prog 133 = true := by kernel_rfl
theorem nm134 : nameB Try.prog 134 = true := by kernel_rfl
theorem nm135 : nameB Try.prog 135 = true := by kernel_rfl
theorem nm136 : nameB Try.prog 136 = true := by kernel_rfl
theorem nm137 : nameB Try.prog 137 = true := by kernel_rfl
theorem nm138 : nameB Try.prog 138 = true := by kernel_rfl
theorem nm139 : nameB Try.prog 139 = true := by kernel_rfl
theorem nm140 : nameB Try.prog 140 = true := by kernel_rfl
theorem nm141 : nameB Try.prog 141 = true := by kernel_rfl
theorem nm142 : nameB Try.prog 142 = true := by kernel_rfl
theorem nm143 : nameB Try.prog 143 = true := by kernel_rfl
theorem nm144 : nameB Try.prog 144 = true := by kernel_rfl
theorem nm145 : nameB Try.prog 145 = true := by kernel_rfl
theorem nm146 : nameB Try.prog 146 = true := by kernel_rfl
theorem nm147 : nameB Try.prog 147 = true := by kernel_rfl
theorem nm148 : nameB Try.prog 148 = true := by kernel_rfl
theorem nm149 : nameB Try.prog 149 = true := by kernel_rfl
theorem nm150 : nameB Try.prog 150 = true := by kernel_rfl
theorem nm151 : nameB Try.prog 151 = true := by kernel_rfl
theorem nm152 : nameB Try.prog 152 = true := by kernel_rfl
theorem nm153 : nameB Try.prog 153 = true := by kernel_rfl
theorem nm154 : nameB Try.prog 154 = true := by kernel_rfl
theorem nm155 : nameB Try.prog 155 = true := by kernel_rfl
theorem nm156 : nameB Try.prog 156 = true := by kernel_rfl
theorem nm157 : nameB Try.prog 157 = true := by kernel_rfl
theorem nm158 : nameB Try.prog 158 = true := by kernel_rfl
theorem nm159 : nameB Try.prog 159 = true := by kernel_rfl
theorem nm160 : nameB Try.prog 160 = true := by kernel_rfl
theorem nm161 : nameB Try.prog 161 = true := by kernel_rfl
theorem nm162 : nameB Try.prog 162 = true := by kernel_rfl
theorem nm163 : nameB Try.prog 163 = true := by kernel_rfl
theorem nm164 : nameB Try.prog 164 = true := by kernel_rfl
theorem nm165 : nameB Try.prog 165 = true := by kernel_rfl
theorem nm166 : nameB Try.prog 166 = true := by kernel_rfl
theorem nm167 : nameB Try.prog 167 = true := by kernel_rfl
theorem nm168 : nameB Try.prog 168 = true := by kernel_rfl
theorem nm169 : nameB Try.prog 169 = true := by kernel_rfl
theorem nm170 : nameB Try.prog 170 = true := by kernel_rfl
theorem nm171 : nameB Try.prog 171 = true := by kernel_rfl
theorem nm172 : nameB Try.prog 172 = true := by kernel_rfl
theorem nm173 : nameB Try.prog 173 = true := by kernel_rfl
theorem nm174 : nameB Try.prog 174 = true := by kernel_rfl
theorem nm175 : nameB Try.prog 175 = true := by kernel_rfl
theorem nm176 : nameB Try.prog 176 = true := by kernel_rfl
theorem nm177 : nameB Try.prog 177 = true := by kernel_rfl
theorem nm178 : nameB Try.prog 178 = true := by kernel_rfl
theorem nm179 : nameB Try.prog 179 = true := by kernel_rfl
theorem nm180 : nameB Try.prog 180 = true := by kernel_rfl
theorem nm182 : nameB Try.prog 182 = true := by kernel_rfl
theorem nm183 : nameB Try.prog 183 = true := by kernel_rfl
theorem nm184 : nameB Try.prog 184 = true := by kernel_rfl
theorem nm185 : nameB Try.prog 185 = true := by kernel_rfl
theorem nm186 : nameB Try.prog 186 = true := by kernel_rfl
theorem nm187 : nameB Try.prog 187 = true := by kernel_rfl
theorem nm188 : nameB Try.prog 188 = true := by kernel_rfl
theorem nm189 : nameB Try.prog 189 = true := by kernel_rfl
theorem nm190 : nameB Try.prog 190 = true := by kernel_rfl
theorem nm191 : nameB Try.prog 191 = true := by kernel_rfl
theorem nm192 : nameB Try.prog 192 = true := by kernel_rfl
theorem nm193 : nameB Try.prog 193 = true := by kernel_rfl
theorem nm194 : nameB Try.prog 194 = true := by kernel_rfl
theorem nm195 : nameB Try.prog 195 = true := by kernel_rfl
theorem nm196 : nameB Try.prog 196 = true := by kernel_rfl
theorem nm197 : nameB Try.prog 197 = true := by kernel_rfl
theorem nm198 : nameB Try.prog 198 = true := by kernel_rfl
theorem nm199 : nameB Try.prog 199 = true := by kernel_rfl
theorem nm200 : nameB Try.prog 200 = true := by kernel_rfl
theorem nm201 : nameB Try.prog 201 = true := by kernel_rfl
theorem nm202 : nameB Try.prog 202 = true := by kernel_rfl
theorem nm203 : nameB Try.prog 203 = true := by kernel_rfl
theorem nm204 : nameB Try.prog 204 = true := by kernel_rfl
theorem nm205 : nameB Try.prog 205 = true := by kernel_rfl
theorem nm206 : nameB Try.prog 206 = true := by kernel_rfl
theorem nm207 : nameB Try.prog 207 = true := by kernel_rfl
theorem nm208 : nameB Try.prog 208 = true := by kernel_rfl
theorem nm209 : nameB Try.prog 209 = true := by kernel_rfl
theorem nm210 : nameB Try.prog 210 = true := by kernel_rfl
theorem nm211 : nameB Try.prog 211 = true := by kernel_rfl
theorem nm212 : nameB Try.prog 212 = true := by kernel_rfl
theorem nm213 : nameB Try.prog 213 = true := by kernel_rfl
theorem nm214 : nameB Try.prog 214 = true := by kernel_rfl
theorem nm215 : nameB Try.prog 215 = true := by kernel_rfl
theorem nm216 : nameB Try.prog 216 = true := by kernel_rfl
theorem nm217 : nameB Try.prog 217 = true := by kernel_rfl
theorem nm218 : nameB Try.prog 218 = true := by kernel_rfl
end Go.Proofs.Ytemkogoclljhpaa.T
